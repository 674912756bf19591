/- Parts of a proof: contracts and laws. -/
import Derived.Test.YtodpincpofoiiaaGreatQI19
import Derived.Test.YtodpincpofoiiaaGreatQI18
import Derived.Test.YtodpincpofoiiaaGreatQI02
import Derived.BigQuiet
import Derived.BigRegion
import Derived.Deep.DeepCutAuto
import Derived.Test.YtodpincpofoiiaaGreatQI16
import Derived.Test.YtodpincpofoiiaaGreatQI10
import Derived.Test.YtodpincpofoiiaaGreatQI30
import Derived.Test.YtodpincpofoiiaaGreatQI05
import Derived.Test.YtodpincpofoiiaaGreatQI01
import Derived.Test.YtodpincpofoiiaaGreatQI03
import Derived.Test.YtodpincpofoiiaaGreatQI00
import Derived.Test.YtodpincpofoiiaaGreatQI08
import Derived.Laws.StructEq
import Derived.Maps.AppendAt
import Derived.Test.YtodpincpofoiiaaGreatQI35
import Derived.Test.YtodpincpofoiiaaGreatQI34
import Derived.Test.YtodpincpofoiiaaGreatQI37
import Derived.Test.YtodpincpofoiiaaGreatQI09
import Derived.Test.YtodpincpofoiiaaGreatQI07
import Derived.Test.YtodpincpofoiiaaGreatQILB
set_option maxRecDepth 100000
set_option maxHeartbeats 16000000
namespace Go.Proofs.YtodpincpofoiiaaGreat
section
set_option linter.unusedVariables false
set_option linter.unusedSimpArgs false
open Go.RowKit

structure PlAt (w : World) (g : Nat) (b : Bd) (l : List V) (k : Nat) : Prop where
 lt:g<w.heap.size
 x:∀ j,j<k→w.cell? ⟨g,j*2,none⟩=some (.int .i64 (wX b (px l j) (py l j)))
 y:∀ j,j<k→w.cell? ⟨g,j*2+1,none⟩=some (.int .i64 (wY b (px l j) (py l j)))
 c:∀ j,j<l.length*2→∃ v,w.cell? ⟨g,j,none⟩=some v
 free:∀ j,w.frozen? ⟨g,j,none⟩=false
theorem PlAt.drew {w:World} {g:Nat} {b:Bd} {l:List V} {k:Nat} (h:PlAt w g b l k):PlAt w.drew g b l k:=⟨h.lt,h.x,h.y,h.c,h.free⟩
theorem PlAt.set {w:World} {g:Nat} {b:Bd} {l:List V} {k:Nat} (h:PlAt w g b l k) (hk:k<l.length) :
  PlAt ((w.setCell ⟨g,k*2,none⟩ (.int .i64 (wX b (px l k) (py l k)))).setCell ⟨g,k*2+1,none⟩ (.int .i64 (wY b (px l k) (py l k)))) g b l (k+1):=by
 obtain ⟨z0,y0⟩:=h.c (k*2) (by omega)
 obtain ⟨z1,y1⟩:=h.c (k*2+1) (by omega)
 refine ⟨by simpa using h.lt,fun j hj=>?_,fun j hj=>?_,fun j hj=>?_,fun j=>by rw [World.frozen?_setCell,World.frozen?_setCell];exact h.free j⟩
 ·by_cases e : j = k
  ·subst e;go_simp
  ·have := h.x j (by omega)
   have n1:¬ (k*2=j*2):=by omega
   have n2:¬ (k*2+1=j*2):=by omega
   have n3:¬ (j*2=k*2):=by omega
   have n4:¬ (j*2=k*2+1):=by omega
   go_simp
 ·by_cases e : j = k
  ·subst e;go_simp
  ·have := h.y j (by omega)
   have n1:¬ (k*2=j*2+1):=by omega
   have n2:¬ (k*2+1=j*2+1):=by omega
   have n3:¬ (j*2+1=k*2):=by omega
   have n4:¬ (j*2+1=k*2+1):=by omega
   go_simp
 ·obtain ⟨v, hv⟩ := h.c j hj
  by_cases e:k*2+1=j
  ·subst e;exact ⟨.int .i64 (wY b (px l k) (py l k)),by go_simp⟩
  ·by_cases e2 : k * 2 = j
   ·subst e2;exact ⟨.int .i64 (wX b (px l k) (py l k)),by go_simp⟩
   ·exact ⟨v,by go_simp⟩
end
end Go.Proofs.YtodpincpofoiiaaGreat
namespace Go.Proofs.YtodpincpofoiiaaGreat
section
set_option linter.unusedVariables false
set_option linter.unusedSimpArgs false
open Go.RowKit
theorem BdAt.far {w:World} {g:Nat} {b:Bd} {A:Option Addr} {n c:Nat} (h:BdAt w g b A n c) (k o:Nat) (v:Value) (hne:k≠g):BdAt (w.setCell ⟨k,o,none⟩ v) g b A n c :=
 ⟨far1 hne h.c0,far1 hne h.c1,far1 hne h.c2,far1 hne h.c3,far1 hne h.c4,far1 hne h.c5,far1 hne h.c6,far1 hne h.c7,far1 hne h.c8,far1 hne h.c9,far1 hne h.c10,far1 hne h.c11,far1 hne h.c12,fun j=>by rw [World.frozen?_setCell];exact h.free j⟩
end
end Go.Proofs.YtodpincpofoiiaaGreat
namespace Go.Proofs.YtodpincpofoiiaaGreat
section
set_option linter.unusedVariables false
set_option linter.unusedSimpArgs false
open Go.RowKit
theorem absZ_le {a M:Int} (h1 : -M≤a) (h2:a≤M):absZ a≤M:=by unfold absZ;split <;> omega
theorem sizeL_made {l:List V} (h:allWithin 262144 l=true) {i k:Nat} (hi:i<l.length) (hk:k<l.length):sizeL l i k≤1048576:=by
 have h1:=withinB_iff.1 (allWithin_at h hi)
 have h2:=withinB_iff.1 (allWithin_at h hk)
 have e1:=absZ_le (a:=px l k-px l i) (M:=524288) (by omega) (by omega)
 have e2:=absZ_le (a:=py l k-py l i) (M:=524288) (by omega) (by omega)
 unfold sizeL
 omega
theorem fatBad_not {l:List V} (hw:allWithin 262144 l=true) {i k:Nat} (hi:i<l.length) (hk:k<l.length) (h:k=i∨k=(i+1) % l.length∨16777216≤sideL l i ((i+1) % l.length) k):fatBad l i k=false:=by
 unfold fatBad
 refine decide_eq_false ?_
 rintro ⟨n1,n2,n3⟩
 rcases h with h | h | h
 ·exact n1 h
 ·exact n2 h
 ·have a1 := sizeL_made hw hi (Nat.mod_lt (i + 1) (show 0 < l.length by omega))
  have a2:=sizeL_made hw hi hk
  omega
theorem fat_of {l:List V} (hw:allWithin 262144 l=true) (h:∀ i,i<l.length→∀ k,k<l.length→(k=i∨k=(i+1) % l.length∨16777216≤sideL l i ((i+1) % l.length) k)):fatB l=true :=
 fatB_ok fun i hi k hk=>fatBad_not hw hi hk (h i hi k hk)
theorem tri_fat {w h x:Int} (hw:w=65536∨w=131072∨w=196608∨w=262144) (hh:h=65536∨h=131072∨h=196608∨h=262144) (h1 : -w≤x) (h2:x<w):fatB [(-w,-h),(w,-h),(x,h)]=true:=by
 have hp:4294967296≤w*h:=by rcases hw with rfl | rfl | rfl | rfl <;> omega
 refine fat_of (by simp [allWithin,withinB];omega) ?_
 intro i hi k hk
 simp only [List.length_cons,List.length_nil] at hi hk
 match i,hi,k,hk with
 | 0,_,0,_=>exact .inl rfl
 | 0,_,1,_=>exact .inr (.inl rfl)
 | 0,_,2,_=>refine .inr (.inr ?_);simp [sideL,sideZ,px,py];grind
 | 1,_,0,_=>refine .inr (.inr ?_);simp [sideL,sideZ,px,py];grind
 | 1,_,1,_=>exact .inl rfl
 | 1,_,2,_=>exact .inr (.inl rfl)
 | 2,_,0,_=>exact .inr (.inl (by simp))
 | 2,_,1,_=>refine .inr (.inr ?_);simp [sideL,sideZ,px,py];grind
 | 2,_,2,_=>exact .inl rfl
theorem made_fat {l:List V} (h:Made l):fatB l=true:=by
 obtain ⟨a,b,k,x,ha,hb,hk,h1,h2,rfl⟩:=h
 rcases hk with rfl | rfl | rfl | rfl
 ·rw [formL_nox _ _ _ _ (by decide)];rcases ha with rfl | rfl | rfl | rfl <;> rcases hb with rfl | rfl | rfl | rfl <;> decide
 ·exact tri_fat (by omega) (by omega) h1 h2
 ·rw [formL_nox _ _ _ _ (by decide)];rcases ha with rfl | rfl | rfl | rfl <;> rcases hb with rfl | rfl | rfl | rfl <;> decide
 ·rw [formL_nox _ _ _ _ (by decide)];rcases ha with rfl | rfl | rfl | rfl <;> rcases hb with rfl | rfl | rfl | rfl <;> decide
theorem tri_has {w h x:Int} (hw:w=65536∨w=131072∨w=196608∨w=262144) (hh:h=65536∨h=131072∨h=196608∨h=262144) (h1 : -w≤x) (h2:x<w):hasB [(-w,-h),(w,-h),(x,h)] 0 0=true:=by
 refine hasB_true (made_tri _ _ _ (by omega) (by omega) (by omega) (by omega) h1 h2) (by decide) ?_
 intro i hi
 simp only [List.length_cons,List.length_nil] at hi
 match i,hi with
 | 0,_=>rcases hw with rfl | rfl | rfl | rfl <;> rcases hh with rfl | rfl | rfl | rfl <;> simp [edgeP,sideZ,px,py]
 | 1,_=>rcases hw with rfl | rfl | rfl | rfl <;> rcases hh with rfl | rfl | rfl | rfl <;> simp [edgeP,sideZ,px,py] <;> omega
 | 2,_=>rcases hw with rfl | rfl | rfl | rfl <;> rcases hh with rfl | rfl | rfl | rfl <;> simp [edgeP,sideZ,px,py] <;> omega
theorem made_has {l:List V} (h:Made l):hasB l 0 0=true:=by
 obtain ⟨a,b,k,x,ha,hb,hk,h1,h2,rfl⟩:=h
 rcases hk with rfl | rfl | rfl | rfl
 ·rw [formL_nox _ _ _ _ (by decide)];rcases ha with rfl | rfl | rfl | rfl <;> rcases hb with rfl | rfl | rfl | rfl <;> decide
 ·exact tri_has (by omega) (by omega) h1 h2
 ·rw [formL_nox _ _ _ _ (by decide)];rcases ha with rfl | rfl | rfl | rfl <;> rcases hb with rfl | rfl | rfl | rfl <;> decide
 ·rw [formL_nox _ _ _ _ (by decide)];rcases ha with rfl | rfl | rfl | rfl <;> rcases hb with rfl | rfl | rfl | rfl <;> decide
theorem made_shape {l:List V} (h:Made l):shapeE l=0:=by
 have hw:allWithin 2097152 l=true:=by
  have:=made_within h
  unfold allWithin at this ⊢
  rw [List.all_eq_true] at this ⊢
  intro p hp
  have:=withinB_iff.1 (this p hp)
  exact withinB_iff.2 (by omega)
 unfold shapeE
 rw [if_neg (by simp [made_check h]),if_neg (by simp [hw]),if_neg (by simp [made_fat h,made_has h])]
theorem madeB_num {b:Bd} (h:MadeB b):numE b=0:=by
 obtain ⟨hpx,hpy,ang,bo,ru,asl,ca,k⟩:=h
 have a1:withinB 58982400 b.px b.py=true:=withinB_iff.2 (by omega)
 have a2:withinB 268435456 b.vx b.vy=true:=withinB_iff.2 (by rcases k with k | k <;> omega)
 have a3:inB b.spin (-16777216) 16777216=true:=inB_iff.2 (by rcases k with k | k <;> omega)
 have a4:inB b.ang 0 65535=true:=inB_iff.2 ang
 have a5:inB b.mass 0 1099511627776=true:=inB_iff.2 (by rcases k with k | k <;> omega)
 have a6:inB b.iner 0 1099511627776=true:=inB_iff.2 (by rcases k with k | k <;> omega)
 have a7:inB b.bounce 0 65536=true:=inB_iff.2 bo
 have a8:inB b.rub 0 65536=true:=inB_iff.2 ru
 have a9:inB b.calm 0 1000=true:=inB_iff.2 (by omega)
 unfold numE
 rw [if_pos (by simp [a1,a2,a3,a4]),if_pos (by simp [a5,a6,a7,a8,a9])]
 rcases k with ⟨k1,k2,k3,k4,k5⟩ | ⟨k1,k2,k3,k4,k5⟩
 ·rw [if_neg (by simp [stillB,k1,k2,k3,k4,k5,asl,ca])]
 ·have m1 : (b.mass == 0) = false := by simp; omega
  have m2:(b.iner == 0)=false:=by simp;omega
  rw [if_neg (by simp [m1,m2,asl])]
theorem madeB_ok {b:Bd} {l:List V} (h:MadeB b) (hl:Made l):bodyE b l=0:=by
 unfold bodyE
 rw [if_neg (by simp [made_shape hl])]
 exact madeB_num h
end
end Go.Proofs.YtodpincpofoiiaaGreat
namespace Go.Proofs.YtodpincpofoiiaaGreat
section
set_option linter.unusedVariables false
set_option linter.unusedSimpArgs false
open Go.RowKit

def lowB (l:List V) (i k:Nat):Prop:=py l i<py l k∨(py l i=py l k∧px l i<px l k)
instance (l:List V) (i k:Nat):Decidable (lowB l i k):=by unfold lowB;infer_instance

def crsZ (a b p q:Int):Int:=a*q-b*p



def sqZ (x y:Int):Int:=x*x+y*y

def farT (x1 y1 x2 y2:Int):Int := -x1*(x2-x1)-y1*(y2-y1)
def farZ (x1 y1 x2 y2:Int):Int :=
 if farT x1 y1 x2 y2≤0 then rootZ (sqZ x1 y1) else if sqZ (x2-x1) (y2-y1)≤farT x1 y1 x2 y2 then rootZ (sqZ x2 y2)
 else rootZ (crsZ x1 y1 x2 y2*crsZ x1 y1 x2 y2 / sqZ (x2-x1) (y2-y1))


end
end Go.Proofs.YtodpincpofoiiaaGreat
namespace Go.Proofs.YtodpincpofoiiaaGreat
section
set_option linter.unusedVariables false
set_option linter.unusedSimpArgs false
open Go.RowKit

def cr (p q:V):Int:=p.1*q.2-p.2*q.1
def dup (p:V):Prop:=0<p.2∨(p.2=0∧0<p.1)
def ddn (p:V):Prop:=p.2<0∨(p.2=0∧p.1<0)
def vsub (p q:V):V:=(p.1-q.1,p.2-q.2)
theorem dup_or {p:V} (h:p.1≠0∨p.2≠0):dup p∨ddn p:=by unfold dup ddn;omega
theorem cr_ne {p q:V} (h:cr p q≠0):(p.1≠0∨p.2≠0)∧(q.1≠0∨q.2≠0):=by
 unfold cr at h
 constructor
 ·rcases Decidable.em (p.1 = 0 ∧ p.2 = 0) with ⟨a, b⟩ | g
  ·rw [a,b] at h;simp at h
  ·omega
 ·rcases Decidable.em (q.1 = 0 ∧ q.2 = 0) with ⟨a, b⟩ | g
  ·rw [a,b] at h;simp at h
  ·omega


def dle (e f:V):Prop:=(dup e∧ddn f)∨(dup e∧dup f∧0≤cr e f)∨(ddn e∧ddn f∧0≤cr e f)

structure Cyc (n : Nat) (E : Nat → V) : Prop where
 pos:2≤n
 per:∀ x,E (x+n)=E x
 turn:∀ x,0<cr (E x) (E (x+1))
 first:dup (E 0)
 last:ddn (E (n-1))
 mono:∀ x,x+1<n→dup (E (x+1))→dup (E x)
theorem Cyc.or {n:Nat} {E:Nat→V} (h:Cyc n E) (x:Nat):dup (E x)∨ddn (E x):=dup_or (cr_ne (show cr (E x) (E (x+1))≠0 by have:=h.turn x;omega)).1
theorem Cyc.next {n:Nat} {E:Nat→V} (h:Cyc n E) {x:Nat} (hx:x+1<n):dle (E x) (E (x+1)):=by
 have t:=h.turn x
 rcases h.or (x+1) with g | g
 ·exact .inr (.inl ⟨h.mono x hx g,g,by omega⟩)
 ·rcases h.or x with k | k
  ·exact .inl ⟨k,g⟩
  ·exact .inr (.inr ⟨k,g,by omega⟩)












end
end Go.Proofs.YtodpincpofoiiaaGreat
namespace Go.Proofs.YtodpincpofoiiaaGreat
section
set_option linter.unusedVariables false
set_option linter.unusedSimpArgs false
open Go.RowKit

section
variable {n m:Nat} {A C E F:Nat→V}



end



end
end Go.Proofs.YtodpincpofoiiaaGreat
namespace Go.Proofs.YtodpincpofoiiaaGreat
section
set_option linter.unusedVariables false
set_option linter.unusedSimpArgs false
open Go.RowKit



section
variable {a b f u P Q:V}

end


end
end Go.Proofs.YtodpincpofoiiaaGreat
namespace Go.Proofs.YtodpincpofoiiaaGreat
section
set_option linter.unusedVariables false
set_option linter.unusedSimpArgs false
open Go.RowKit

structure Vp (w : World) (g : Nat) (x y : Int) : Prop where
 a:w.cell? ⟨g,0,none⟩=some (.int .i64 x)
 b:w.cell? ⟨g,1,none⟩=some (.int .i64 y)
 f:∀ j,w.frozen? ⟨g,j,none⟩=false
theorem keepVp {w w':World} {g:Nat} {x y:Int} (hb:Below w.heap.size w w') (h:Vp w g x y):Vp w' g x y :=
 ⟨keepCell hb h.a,keepCell hb h.b,fun j=>((bcell hb).2 _ _ (lt_of_cell h.a)).trans (h.f j)⟩
theorem Vp.lt {w:World} {g:Nat} {x y:Int} (h:Vp w g x y):g<w.heap.size:=lt_of_cell h.a
theorem Vp.alloc {w:World} {g:Nat} {x y:Int} (h:Vp w g x y) (o:Obj):Vp (w.alloc o) g x y:=keepVp Ba h
theorem Vp.drew {w:World} {g:Nat} {x y:Int} (h:Vp w g x y):Vp w.drew g x y:=⟨h.a,h.b,h.f⟩
theorem Vp.here (w:World) (x y:Int) (t:TypeId):Vp (w.alloc (.cells #[.int .i64 x,.int .i64 y] t)) w.heap.size x y:=⟨by go_simp,by go_simp,fun j=>by go_simp⟩
theorem Vp.put {w:World} {g:Nat} {x y:Int} (h:Vp w g x y) (u v:Int):Vp ((w.setCell ⟨g,0,none⟩ (.int .i64 u)).setCell ⟨g,1,none⟩ (.int .i64 v)) g u v:=by
 obtain ⟨a,b,f⟩:=h
 exact ⟨by go_simp,by go_simp,fun j=>by go_simp⟩
theorem Vp.off {w:World} {g k:Nat} {x y:Int} (h:Vp w g x y) (hne:g≠k) (u v:Value):Vp ((w.setCell ⟨k,0,none⟩ u).setCell ⟨k,1,none⟩ v) g x y:=by
 obtain ⟨a,b,f⟩:=h
 exact ⟨by go_simp,by go_simp,fun j=>by go_simp⟩
def sm62 (a:Int):Prop := -4611686018427387904≤a∧a≤4611686018427387904
end
end Go.Proofs.YtodpincpofoiiaaGreat
namespace Go.Proofs.YtodpincpofoiiaaGreat
section
set_option linter.unusedVariables false
set_option linter.unusedSimpArgs false
open Go.RowKit
def sm57 (a:Int):Prop := -144115188075855872≤a∧a≤144115188075855872
theorem sm57.up {a:Int} (h:sm57 a):sm62 a:=by unfold sm57 at h;unfold sm62;omega
theorem sm57.neg {a:Int} (h:sm57 a):sm57 (-a):=by unfold sm57 at *;omega

structure Cf (w : World) (g : Nat) (x y : Int) : Prop where
 a:w.cell? ⟨g,0,none⟩=some (.int .i64 x)
 b:w.cell? ⟨g,1,none⟩=some (.int .i64 y)
end
end Go.Proofs.YtodpincpofoiiaaGreat
namespace Go.Proofs.YtodpincpofoiiaaGreat
section
set_option linter.unusedVariables false
set_option linter.unusedSimpArgs false
open Go.RowKit
theorem keepCf {w w':World} {g:Nat} {x y:Int} (hb:Below w.heap.size w w') (h:Cf w g x y):Cf w' g x y:=⟨keepCell hb h.a,keepCell hb h.b⟩
theorem Cf.lt {w:World} {g:Nat} {x y:Int} (h:Cf w g x y):g<w.heap.size:=lt_of_cell h.a
theorem Cf.far {w:World} {g k:Nat} {x y:Int} (h:Cf w g x y) (hne:g≠k) (o:Nat) (v:Value):Cf (w.setCell ⟨k,o,none⟩ v) g x y:=by
 obtain ⟨a,b⟩:=h
 exact ⟨by go_simp,by go_simp⟩

structure Lk (w wx : World) (gt gp gq : Nat) (fx fy ux uy tx ty ax ay bx by_ : Int) : Prop where
 f:Cf wx w.heap.size fx fy
 u:Cf wx (w.heap.size+1) ux uy
 t:Cf wx gt tx ty
 p:Cf wx gp ax ay
 q:Cf wx gq bx by_
 b:Below w.heap.size w wx
 l1:w.heap.size+1<gt
 l2:gt<gp
 l3:gp<gq
 lq:gq<wx.heap.size
section
variable {w wx wy:World} {gt gp gq:Nat} {fx fy ux uy tx ty ax ay bx by_:Int}
theorem keepLk (hb:Below wx.heap.size wx wy) (h:Lk w wx gt gp gq fx fy ux uy tx ty ax ay bx by_):Lk w wy gt gp gq fx fy ux uy tx ty ax ay bx by_ :=
 ⟨keepCf hb h.f,keepCf hb h.u,keepCf hb h.t,keepCf hb h.p,keepCf hb h.q,keepBelow hb h.b,h.l1,h.l2,h.l3,Nat.lt_of_lt_of_le h.lq hb.size⟩
theorem Lk.drew (h:Lk w wx gt gp gq fx fy ux uy tx ty ax ay bx by_):Lk w wx.drew gt gp gq fx fy ux uy tx ty ax ay bx by_:=keepLk (Below.refl _ _).drew h
theorem Lk.far (h:Lk w wx gt gp gq fx fy ux uy tx ty ax ay bx by_) {g:Nat} (hg:gq<g) (o:Nat) (v:Value):Lk w (wx.setCell ⟨g,o,none⟩ v) gt gp gq fx fy ux uy tx ty ax ay bx by_:=by
 have:=h.l1
 have:=h.l2
 have:=h.l3
 exact ⟨h.f.far (by omega) _ _,h.u.far (by omega) _ _,h.t.far (by omega) _ _,h.p.far (by omega) _ _,h.q.far (by omega) _ _,h.b.setCell (p:=⟨g,o,none⟩) (by show _≤g;omega) _,h.l1,h.l2,h.l3,by have:=h.lq;simpa using this⟩


end
end
end Go.Proofs.YtodpincpofoiiaaGreat
namespace Go.Proofs.YtodpincpofoiiaaGreat
section
set_option linter.unusedVariables false
set_option linter.unusedSimpArgs false
open Go.RowKit
def lowV (p q:V):Prop:=p.2<q.2∨(p.2=q.2∧p.1<q.1)
instance (p q:V):Decidable (lowV p q):=by unfold lowV;infer_instance

def wrpB (o nx p:V):Prop:=nx=o∨cr (vsub nx o) (vsub p o)<0∨(cr (vsub nx o) (vsub p o)=0∧sqZ (nx.1-o.1) (nx.2-o.2)<sqZ (p.1-o.1) (p.2-o.2))
instance (o p q:V):Decidable (wrpB o p q):=by unfold wrpB;infer_instance

section
variable {l D:List V}
end



end
end Go.Proofs.YtodpincpofoiiaaGreat
namespace Go.Proofs.YtodpincpofoiiaaGreat
section
set_option linter.unusedVariables false
set_option linter.unusedSimpArgs false
open Go.RowKit

structure Vc (w : World) (g : Nat) (x y : Int) : Prop where
 a:w.cell? ⟨g,0,none⟩=some (.int .i64 x)
 b:w.cell? ⟨g,1,none⟩=some (.int .i64 y)
 f:∀ j,w.frozen? ⟨g,j,none⟩=false
theorem keepVc {w w':World} {g:Nat} {x y:Int} (hb:Below w.heap.size w w') (h:Vc w g x y):Vc w' g x y :=
 ⟨keepCell hb h.a,keepCell hb h.b,fun j=>((bcell hb).2 _ _ (lt_of_cell h.a)).trans (h.f j)⟩
theorem Vc.lt {w:World} {g:Nat} {x y:Int} (h:Vc w g x y):g<w.heap.size:=lt_of_cell h.a
theorem Vc.alloc {w:World} {g:Nat} {x y:Int} (h:Vc w g x y) (o:Obj):Vc (w.alloc o) g x y:=keepVc Ba h
theorem Vc.drew {w:World} {g:Nat} {x y:Int} (h:Vc w g x y):Vc w.drew g x y:=⟨h.a,h.b,h.f⟩
theorem Vc.here (w:World) (x y:Int) (t:TypeId):Vc (w.alloc (.cells #[.int .i64 x,.int .i64 y] t)) w.heap.size x y:=⟨by go_simp,by go_simp,fun j=>by go_simp⟩
theorem Vc.put {w:World} {g:Nat} {x y:Int} (h:Vc w g x y) (u v:Int):Vc ((w.setCell ⟨g,0,none⟩ (.int .i64 u)).setCell ⟨g,1,none⟩ (.int .i64 v)) g u v:=by
 obtain ⟨a,b,f⟩:=h
 exact ⟨by go_simp,by go_simp,fun j=>by go_simp⟩
theorem Vc.off {w:World} {g b:Nat} {x y:Int} (h:Vc w b x y) (hne:g≠b) (u v:Value):Vc ((w.setCell ⟨g,0,none⟩ u).setCell ⟨g,1,none⟩ v) b x y:=by
 have hl:=h.lt
 obtain ⟨a,b',f⟩:=h
 have hne2:¬ b=g:=fun e=>hne e.symm
 exact ⟨far2 hne a,far2 hne b',fun j=>by go_simp⟩
theorem Own.off {w:World} {B g:Nat} {s:Value} {l:List V} (h:Own w B s l) (hne:∀ k,s.ownBlock=some k→k≠g) (o:Nat) (u:Value):Own (w.setCell ⟨g,o,none⟩ u) B s l:=by
 refine World.ownsRow.kept h (grown_setCell _ g o _) ?_
 cases hv:s.ownBlock with
 | none=>exact .inl rfl
 | some k=>exact .inr fun e=>by cases e;exact hne _ hv rfl

structure WW (w0 : World) (gF : Nat) (s : Value) (o : List V) (F : V) (w : World) : Prop where
 vF:Vc w gF F.1 F.2
 own:Own w (gF+1) s o
 bel:Below w0.heap.size w0 w
 le:w0.heap.size≤gF
theorem WW.keep {w0:World} {gF:Nat} {s:Value} {o:List V} {F:V} {w w':World} (hb:Below w.heap.size w w') (h:WW w0 gF s o F w):WW w0 gF s o F w' :=
 ⟨keepVc hb h.vF,h.own.below hb,keepBelow hb h.bel,h.le⟩
theorem WW.app {w0:World} {gF:Nat} {s s':Value} {o o':List V} {F:V} {w w':World} {ob:Obj} (h:WW w0 gF s o F w) (ho:Own w' (gF+1) s' o') (hb:Below (gF+1) (w.alloc ob) w'):WW w0 gF s' o' F w' :=
 have h2:=h.keep ((Below.refl _ _).alloc (Nat.le_refl _) ob)
 ⟨⟨((bcell hb).1 _ _ (Nat.lt_succ_self gF)).trans h2.vF.a,((bcell hb).1 _ _ (Nat.lt_succ_self gF)).trans h2.vF.b,fun j=>((bcell hb).2 _ _ (Nat.lt_succ_self gF)).trans (h2.vF.f j)⟩,ho,h2.bel.trans (hb.mono (Nat.le_succ_of_le h.le)),h.le⟩

structure WN (w0 : World) (gF : Nat) (s : Value) (o : List V) (F : V) (gO gN : Nat) (q nx : V) (w : World) : Prop where
 ww:WW w0 gF s o F w
 vO:Vc w gO q.1 q.2
 vN:Vc w gN nx.1 nx.2
 ob:∀ k,s.ownBlock=some k→k<gN
 l1:gF<gO
 l2:gO<gN
theorem WN.keep {w0:World} {gF:Nat} {s:Value} {o:List V} {F:V} {gO gN:Nat} {q nx:V} {w w':World} (hb:Below w.heap.size w w') (h:WN w0 gF s o F gO gN q nx w):WN w0 gF s o F gO gN q nx w' :=
 ⟨h.ww.keep hb,keepVc hb h.vO,keepVc hb h.vN,h.ob,h.l1,h.l2⟩
theorem WN.put {w0:World} {gF:Nat} {s:Value} {o:List V} {F:V} {gO gN:Nat} {q nx:V} {w:World} (h:WN w0 gF s o F gO gN q nx w) (p:V):WN w0 gF s o F gO gN q p ((w.setCell ⟨gN,0,none⟩ (.int .i64 p.1)).setCell ⟨gN,1,none⟩ (.int .i64 p.2)):=by
 have:=h.l1
 have:=h.l2
 have:=h.ww.le
 refine ⟨⟨h.ww.vF.off (by omega) _ _,(h.ww.own.off (fun k hk=>by have:=h.ob k hk;omega) _ _).off (fun k hk=>by have:=h.ob k hk;omega) _ _,(h.ww.bel.setCell (p:=⟨gN,0,none⟩) (by show _≤gN;omega) _).setCell (p:=⟨gN,1,none⟩) (by show _≤gN;omega) _,h.ww.le⟩,h.vO.off (by omega) _ _,h.vN.put _ _,h.ob,h.l1,h.l2⟩
end
end Go.Proofs.YtodpincpofoiiaaGreat
namespace Go.Proofs.YtodpincpofoiiaaGreat
section
set_option linter.unusedVariables false
set_option linter.unusedSimpArgs false
open Go.RowKit
def farP (p q:V):Int:=farZ p.1 p.2 q.1 q.2



end
end Go.Proofs.YtodpincpofoiiaaGreat
namespace Go.Proofs.YtodpincpofoiiaaGreat
section
set_option linter.unusedVariables false
set_option linter.unusedSimpArgs false
open Go.RowKit


structure MN (w0 : World) (s : Value) (o : List V) (w : World) : Prop where
 own:Own w w0.heap.size s o
 bel:Below w0.heap.size w0 w
theorem MN.keep {w0:World} {s:Value} {o:List V} {w w':World} (hb:Below w.heap.size w w') (h:MN w0 s o w):MN w0 s o w':=⟨h.own.below hb,keepBelow hb h.bel⟩

structure MI (w0 : World) (g : Nat) (x y : Int) (s : Value) (o : List V) (w : World) : Prop where
 mn:MN w0 s o w
 a:w.cell? ⟨g,0,none⟩=some (.int .i64 x)
 b:w.cell? ⟨g,1,none⟩=some (.int .i64 y)
 ob:∀ k,s.ownBlock=some k→k≠g
theorem MI.keep {w0:World} {g:Nat} {x y:Int} {s:Value} {o:List V} {w w':World} (hb:Below w.heap.size w w') (h:MI w0 g x y s o w):MI w0 g x y s o w':=⟨h.mn.keep hb,keepCell hb h.a,keepCell hb h.b,h.ob⟩
theorem MI.app {w0:World} {g:Nat} {x y:Int} {s s':Value} {o o':List V} {w w':World} (h:MI w0 g x y s o w) (ho:Own w' w0.heap.size s' o') (hg:w.grownBy w' s.ownBlock) (hat:s'.ownBlock=s.ownBlock∨s'.ownBlock=some w.heap.size):MI w0 g x y s' o' w':=by
 have hne:some g≠s.ownBlock:=fun e=>h.ob g e.symm rfl
 refine ⟨⟨ho,h.mn.bel.grown hg h.mn.bel.size (fun k hk=>(World.ownsRow.lt h.mn.own k hk).1)⟩,hg.cell h.a hne,hg.cell h.b hne,fun k hk=>?_⟩
 rcases hat with q | q
 ·exact h.ob k (by rw [← q];exact hk)
 ·have := lt_of_cell h.a
  rw [q] at hk
  cases hk
  omega
end
end Go.Proofs.YtodpincpofoiiaaGreat
namespace Go.Proofs.YtodpincpofoiiaaGreat
section
set_option linter.unusedVariables false
set_option linter.unusedSimpArgs false
open Go.RowKit

structure MW (w5 : World) (gT : Nat) (s : Value) (o : List V) (u v : Int) (w : World) : Prop where
 t0:w.cell? ⟨gT,0,none⟩=some (.int .i64 u)
 t1:w.cell? ⟨gT,1,none⟩=some (.int .i64 v)
 tf:∀ j,w.frozen? ⟨gT,j,none⟩=false
 own:Own w (gT+1) s o
 bel:Below w5.heap.size w5 w
 le:w5.heap.size≤gT
theorem MW.keep {w5:World} {gT:Nat} {s:Value} {o:List V} {u v:Int} {w w':World} (hb:Below w.heap.size w w') (h:MW w5 gT s o u v w):MW w5 gT s o u v w' :=
 ⟨keepCell hb h.t0,keepCell hb h.t1,fun j=>((bcell hb).2 _ _ (lt_of_cell h.t0)).trans (h.tf j),h.own.below hb,keepBelow hb h.bel,h.le⟩
theorem MW.drew {w5:World} {gT:Nat} {s:Value} {o:List V} {u v:Int} {w:World} (h:MW w5 gT s o u v w):MW w5 gT s o u v w.drew:=h.keep (Below.refl _ _).drew
theorem MW.app {w5:World} {gT:Nat} {s s':Value} {o o':List V} {u v:Int} {w w':World} {ob:Obj} (h:MW w5 gT s o u v w) (ho:Own w' (gT+1) s' o') (hb:Below (gT+1) (w.alloc ob) w'):MW w5 gT s' o' u v w' :=
 have h2:=h.keep ((Below.refl _ _).alloc (Nat.le_refl _) ob)
 ⟨((bcell hb).1 _ _ (Nat.lt_succ_self gT)).trans h2.t0,((bcell hb).1 _ _ (Nat.lt_succ_self gT)).trans h2.t1,fun j=>((bcell hb).2 _ _ (Nat.lt_succ_self gT)).trans (h2.tf j),ho,h2.bel.trans (hb.mono (Nat.le_succ_of_le h.le)),h.le⟩
theorem MW.set {w5:World} {gT:Nat} {s:Value} {o:List V} {u v:Int} {w:World} (h:MW w5 gT s o u v w) (u' v':Int):MW w5 gT s o u' v' ((w.setCell ⟨gT,0,none⟩ (.int .i64 u')).setCell ⟨gT,1,none⟩ (.int .i64 v')):=by
 obtain ⟨t0,t1,tf,own,bel,le⟩:=h
 exact ⟨by go_simp,by go_simp,fun j=>by go_simp,(own.kept (grown_setCell _ gT 0 _) (fun k e=>by cases e;exact Nat.lt_succ_self _)).kept (grown_setCell _ gT 1 _) (fun k e=>by cases e;exact Nat.lt_succ_self _),(bel.setCell (p:=⟨gT,0,none⟩) le _).setCell (p:=⟨gT,1,none⟩) le _,le⟩

end
end Go.Proofs.YtodpincpofoiiaaGreat
namespace Go.Proofs.YtodpincpofoiiaaGreat
section
set_option linter.unusedVariables false
set_option linter.unusedSimpArgs false
open Go.RowKit

structure VI (w : World) (g : Nat) : Prop where
 c:∃ a,w.cell? ⟨g,0,none⟩=some (.int .i64 a)
 free:∀ j,w.frozen? ⟨g,j,none⟩=false
theorem VI.here (w:World) (a:Int) (t:TypeId):VI (w.alloc (.cells #[.int .i64 a] t)) w.heap.size:=⟨⟨a,by go_simp⟩,fun j=>by go_simp⟩
theorem VI.drew {w:World} {g:Nat} (h:VI w g):VI w.drew g:=⟨h.c,h.free⟩
end
end Go.Proofs.YtodpincpofoiiaaGreat
namespace Go.Proofs.YtodpincpofoiiaaGreat
section
set_option linter.unusedVariables false
set_option linter.unusedSimpArgs false
open Go.RowKit





theorem made_all {L:List BE} (h:∀ x ∈ L,MadeB x.b∧Made x.l):∀ x ∈ L,bodyE x.b x.l=0:=fun x hx=>madeB_ok (h x hx).1 (h x hx).2
end
end Go.Proofs.YtodpincpofoiiaaGreat
