/- Parts of a proof: contracts and laws. -/
import Derived.Test.YtokgmcomgflloaaGreatQA29
import Derived.Test.YtokgmcomgflloaaGreatQA07
import Derived.Test.YtokgmcomgflloaaGreatQA01
import Derived.Test.YtokgmcomgflloaaGreatQA02
import Derived.Test.YtokgmcomgflloaaGreatQA00
import Derived.Test.YtokgmcomgflloaaGreatQA06
import Derived.Deep.DeepCutAuto
import Derived.Laws.StructEq
import Derived.Maps.AppendAt
set_option maxRecDepth 100000
set_option maxHeartbeats 16000000
namespace Go.Proofs.YtokgmcomgflloaaGreat
section
set_option linter.unusedVariables false
set_option linter.unusedSimpArgs false
open Go.RowKit
variable {w0 w w':World}

def OV (l:List V) (i k:Nat):Prop:=py l i<py l k∨(py l i=py l k∧px l i<px l k)
instance (l:List V) (i k:Nat):Decidable (OV l i k):=by unfold OV;infer_instance

def Pv (a b p q:Int):Int:=a*q-b*p



def OT (x y:Int):Int:=x*x+y*y

def Po (x1 y1 x2 y2:Int):Int := -x1*(x2-x1)-y1*(y2-y1)
def P6 (x1 y1 x2 y2:Int):Int :=
 if Po x1 y1 x2 y2≤0 then iE (OT x1 y1) else if OT (x2-x1) (y2-y1)≤Po x1 y1 x2 y2 then iE (OT x2 y2)
 else iE (Pv x1 y1 x2 y2*Pv x1 y1 x2 y2 / OT (x2-x1) (y2-y1))


def cr (p q:V):Int:=p.1*q.2-p.2*q.1
def dup (p:V):Prop:=0<p.2∨(p.2=0∧0<p.1)
def NU (p:V):Prop:=p.2<0∨(p.2=0∧p.1<0)
def MV (p q:V):V:=(p.1-q.1,p.2-q.2)
theorem N7 {p:V} (h:p.1≠0∨p.2≠0):dup p∨NU p:=by unfold dup NU;omega
theorem Ph {p q:V} (h:cr p q≠0):(p.1≠0∨p.2≠0)∧(q.1≠0∨q.2≠0):=by
 unfold cr at h
 constructor
 ·rcases Decidable.em (p.1 = 0 ∧ p.2 = 0) with ⟨a, b⟩ | g
  ·rw [a,b] at h;simp at h
  ·omega
 ·rcases Decidable.em (q.1 = 0 ∧ q.2 = 0) with ⟨a, b⟩ | g
  ·rw [a,b] at h;simp at h
  ·omega


def dle (e f:V):Prop:=(dup e∧NU f)∨(dup e∧dup f∧0≤cr e f)∨(NU e∧NU f∧0≤cr e f)

structure PO (n : Nat) (E : Nat → V) : Prop where
 pos:2≤n
 per:∀ x,E (x+n)=E x
 turn:∀ x,0<cr (E x) (E (x+1))
 first:dup (E 0)
 last:NU (E (n-1))
 mono:∀ x,x+1<n→dup (E (x+1))→dup (E x)
theorem PO.or {n:Nat} {E:Nat→V} (h:PO n E) (x:Nat):dup (E x)∨NU (E x):=N7 (Ph (show cr (E x) (E (x+1))≠0 by have:=h.turn x;omega)).1
theorem PO.next {n:Nat} {E:Nat→V} (h:PO n E) {x:Nat} (hx:x+1<n):dle (E x) (E (x+1)):=by
 have t:=h.turn x
 rcases h.or (x+1) with g | g
 ·exact .inr (.inl ⟨h.mono x hx g,g,by omega⟩)
 ·rcases h.or x with k | k
  ·exact .inl ⟨k,g⟩
  ·exact .inr (.inr ⟨k,g,by omega⟩)












section
variable {w0 w w':World}
variable {n m:Nat} {A C E F:Nat→V}



end



section
variable {w0 w w':World}
variable {a b f u P Q:V}

end


structure Vp (w : World) (g : Nat) (x y : Int) : Prop where
 a:w.cell? ⟨g,0,none⟩=some (.int .i64 x)
 b:w.cell? ⟨g,1,none⟩=some (.int .i64 y)
 f:∀ j,w.frozen? ⟨g,j,none⟩=false
theorem Ol {g:Nat} {x y:Int} (hb:Below w.heap.size w w') (h:Vp w g x y):Vp w' g x y :=
 ⟨keepCell hb h.a,keepCell hb h.b,fun j=>((dF hb).2 _ _ (lt_of_cell h.a)).trans (h.f j)⟩
theorem Vp.lt {g:Nat} {x y:Int} (h:Vp w g x y):g<w.heap.size:=lt_of_cell h.a
theorem Vp.alloc {g:Nat} {x y:Int} (h:Vp w g x y) (o:Obj):Vp (w.alloc o) g x y:=Ol Ba h
theorem Vp.drew {g:Nat} {x y:Int} (h:Vp w g x y):Vp w.drew g x y:=⟨h.a,h.b,h.f⟩
theorem Vp.here (w:World) (x y:Int) (t:TypeId):Vp (w.alloc (.cells #[.int .i64 x,.int .i64 y] t)) w.heap.size x y:=⟨by go_simp,by go_simp,fun j=>by go_simp⟩
theorem Vp.put {g:Nat} {x y:Int} (h:Vp w g x y) (u v:Int):Vp ((w.setCell ⟨g,0,none⟩ (.int .i64 u)).setCell ⟨g,1,none⟩ (.int .i64 v)) g u v:=by
 obtain ⟨a,b,f⟩:=h;exact ⟨by go_simp,by go_simp,fun j=>by go_simp⟩
theorem Vp.off {g k:Nat} {x y:Int} (h:Vp w g x y) (hne:g≠k) (u v:Value):Vp ((w.setCell ⟨k,0,none⟩ u).setCell ⟨k,1,none⟩ v) g x y:=by
 obtain ⟨a,b,f⟩:=h;exact ⟨by go_simp,by go_simp,fun j=>by go_simp⟩
def OX (a:Int):Prop := -4611686018427387904≤a∧a≤4611686018427387904
def Fq (a:Int):Prop := -144115188075855872≤a∧a≤144115188075855872
theorem Fq.up {a:Int} (h:Fq a):OX a:=by unfold Fq at h;unfold OX;omega
theorem Fq.neg {a:Int} (h:Fq a):Fq (-a):=by unfold Fq at *;omega

structure Cf (w : World) (g : Nat) (x y : Int) : Prop where
 a:w.cell? ⟨g,0,none⟩=some (.int .i64 x)
 b:w.cell? ⟨g,1,none⟩=some (.int .i64 y)
theorem xB {g:Nat} {x y:Int} (hb:Below w.heap.size w w') (h:Cf w g x y):Cf w' g x y:=⟨keepCell hb h.a,keepCell hb h.b⟩
theorem Cf.lt {g:Nat} {x y:Int} (h:Cf w g x y):g<w.heap.size:=lt_of_cell h.a
theorem Cf.far {g k:Nat} {x y:Int} (h:Cf w g x y) (hne:g≠k) (o:Nat) (v:Value):Cf (w.setCell ⟨k,o,none⟩ v) g x y:=by
 obtain ⟨a,b⟩:=h;exact ⟨by go_simp,by go_simp⟩

structure Lk (w wx : World) (gt gp gq : Nat) (fx fy ux uy tx ty ax ay bx by_ : Int) : Prop where
 f:Cf wx w.heap.size fx fy
 u:Cf wx (w.heap.size+1) ux uy
 t:Cf wx gt tx ty
 p:Cf wx gp ax ay
 q:Cf wx gq bx by_
 b:Below w.heap.size w wx
 l1:w.heap.size+1<gt
 l2:gt<gp
 l3:gp<gq
 lq:gq<wx.heap.size
section
variable {w0 w w':World}
variable {w wx wy:World} {gt gp gq:Nat} {fx fy ux uy tx ty ax ay bx by_:Int}
theorem Ob (hb:Below wx.heap.size wx wy) (h:Lk w wx gt gp gq fx fy ux uy tx ty ax ay bx by_):Lk w wy gt gp gq fx fy ux uy tx ty ax ay bx by_ :=
 ⟨xB hb h.f,xB hb h.u,xB hb h.t,xB hb h.p,xB hb h.q,aj hb h.b,h.l1,h.l2,h.l3,Nat.lt_of_lt_of_le h.lq hb.size⟩
theorem Lk.drew (h:Lk w wx gt gp gq fx fy ux uy tx ty ax ay bx by_):Lk w wx.drew gt gp gq fx fy ux uy tx ty ax ay bx by_:=Ob (Below.refl _ _).drew h
theorem Lk.far (h:Lk w wx gt gp gq fx fy ux uy tx ty ax ay bx by_) {g:Nat} (hg:gq<g) (o:Nat) (v:Value):Lk w (wx.setCell ⟨g,o,none⟩ v) gt gp gq fx fy ux uy tx ty ax ay bx by_:=by
 have:=h.l1;have:=h.l2;have:=h.l3;exact ⟨h.f.far (by omega) _ _,h.u.far (by omega) _ _,h.t.far (by omega) _ _,h.p.far (by omega) _ _,h.q.far (by omega) _ _,h.b.setCell (p:=⟨g,o,none⟩) (by show _≤g;omega) _,h.l1,h.l2,h.l3,by have:=h.lq;simpa using this⟩


end
def PE (p q:V):Prop:=p.2<q.2∨(p.2=q.2∧p.1<q.1)
instance (p q:V):Decidable (PE p q):=by unfold PE;infer_instance

def PG (o nx p:V):Prop:=nx=o∨cr (MV nx o) (MV p o)<0∨(cr (MV nx o) (MV p o)=0∧OT (nx.1-o.1) (nx.2-o.2)<OT (p.1-o.1) (p.2-o.2))
instance (o p q:V):Decidable (PG o p q):=by unfold PG;infer_instance

section
variable {w0 w w':World}
variable {l D:List V}
end



structure Vc (w : World) (g : Nat) (x y : Int) : Prop where
 a:w.cell? ⟨g,0,none⟩=some (.int .i64 x)
 b:w.cell? ⟨g,1,none⟩=some (.int .i64 y)
 f:∀ j,w.frozen? ⟨g,j,none⟩=false
theorem Bc {g:Nat} {x y:Int} (hb:Below w.heap.size w w') (h:Vc w g x y):Vc w' g x y :=
 ⟨keepCell hb h.a,keepCell hb h.b,fun j=>((dF hb).2 _ _ (lt_of_cell h.a)).trans (h.f j)⟩
theorem Vc.lt {g:Nat} {x y:Int} (h:Vc w g x y):g<w.heap.size:=lt_of_cell h.a
theorem Vc.alloc {g:Nat} {x y:Int} (h:Vc w g x y) (o:Obj):Vc (w.alloc o) g x y:=Bc Ba h
theorem Vc.drew {g:Nat} {x y:Int} (h:Vc w g x y):Vc w.drew g x y:=⟨h.a,h.b,h.f⟩
theorem Vc.here (w:World) (x y:Int) (t:TypeId):Vc (w.alloc (.cells #[.int .i64 x,.int .i64 y] t)) w.heap.size x y:=⟨by go_simp,by go_simp,fun j=>by go_simp⟩
theorem Vc.put {g:Nat} {x y:Int} (h:Vc w g x y) (u v:Int):Vc ((w.setCell ⟨g,0,none⟩ (.int .i64 u)).setCell ⟨g,1,none⟩ (.int .i64 v)) g u v:=by
 obtain ⟨a,b,f⟩:=h;exact ⟨by go_simp,by go_simp,fun j=>by go_simp⟩
theorem Vc.off {g b:Nat} {x y:Int} (h:Vc w b x y) (hne:g≠b) (u v:Value):Vc ((w.setCell ⟨g,0,none⟩ u).setCell ⟨g,1,none⟩ v) b x y:=by
 have hl:=h.lt;obtain ⟨a,b',f⟩:=h;have hne2:¬ b=g:=fun e=>hne e.symm
 exact ⟨lW hne a,lW hne b',fun j=>by go_simp⟩
theorem Own.off {B g:Nat} {s:Value} {l:List V} (h:Own w B s l) (hne:∀ k,s.ownBlock=some k→k≠g) (o:Nat) (u:Value):Own (w.setCell ⟨g,o,none⟩ u) B s l:=by
 refine World.ownsRow.kept h (aN _ g o _) ?_
 cases hv:s.ownBlock with
 | none=>exact .inl rfl
 | some k=>exact .inr fun e=>by cases e;exact hne _ hv rfl

structure WW (w0 : World) (gF : Nat) (s : Value) (o : List V) (F : V) (w : World) : Prop where
 vF:Vc w gF F.1 F.2
 own:Own w (gF+1) s o
 bel:Below w0.heap.size w0 w
 le:w0.heap.size≤gF
theorem WW.keep {gF:Nat} {s:Value} {o:List V} {F:V} {w w':World} (hb:Below w.heap.size w w') (h:WW w0 gF s o F w):WW w0 gF s o F w' :=
 ⟨Bc hb h.vF,h.own.below hb,aj hb h.bel,h.le⟩
theorem WW.app {gF:Nat} {s s':Value} {o o':List V} {F:V} {w w':World} {ob:Obj} (h:WW w0 gF s o F w) (ho:Own w' (gF+1) s' o') (hb:Below (gF+1) (w.alloc ob) w'):WW w0 gF s' o' F w' :=
 have h2:=h.keep ((Below.refl _ _).alloc (Nat.le_refl _) ob)
 ⟨⟨((dF hb).1 _ _ (Nat.lt_succ_self gF)).trans h2.vF.a,((dF hb).1 _ _ (Nat.lt_succ_self gF)).trans h2.vF.b,fun j=>((dF hb).2 _ _ (Nat.lt_succ_self gF)).trans (h2.vF.f j)⟩,ho,h2.bel.trans (hb.mono (Nat.le_succ_of_le h.le)),h.le⟩

structure WN (w0 : World) (gF : Nat) (s : Value) (o : List V) (F : V) (gO gN : Nat) (q nx : V) (w : World) : Prop where
 ww:WW w0 gF s o F w
 vO:Vc w gO q.1 q.2
 vN:Vc w gN nx.1 nx.2
 ob:∀ k,s.ownBlock=some k→k<gN
 l1:gF<gO
 l2:gO<gN
theorem WN.keep {gF:Nat} {s:Value} {o:List V} {F:V} {gO gN:Nat} {q nx:V} {w w':World} (hb:Below w.heap.size w w') (h:WN w0 gF s o F gO gN q nx w):WN w0 gF s o F gO gN q nx w' :=
 ⟨h.ww.keep hb,Bc hb h.vO,Bc hb h.vN,h.ob,h.l1,h.l2⟩
theorem WN.put {gF:Nat} {s:Value} {o:List V} {F:V} {gO gN:Nat} {q nx:V} {w:World} (h:WN w0 gF s o F gO gN q nx w) (p:V):WN w0 gF s o F gO gN q p ((w.setCell ⟨gN,0,none⟩ (.int .i64 p.1)).setCell ⟨gN,1,none⟩ (.int .i64 p.2)):=by
 have:=h.l1;have:=h.l2;have:=h.ww.le;refine ⟨⟨h.ww.vF.off (by omega) _ _,(h.ww.own.off (fun k hk=>by have:=h.ob k hk;omega) _ _).off (fun k hk=>by have:=h.ob k hk;omega) _ _,(h.ww.bel.setCell (p:=⟨gN,0,none⟩) (by show _≤gN;omega) _).setCell (p:=⟨gN,1,none⟩) (by show _≤gN;omega) _,h.ww.le⟩,h.vO.off (by omega) _ _,h.vN.put _ _,h.ob,h.l1,h.l2⟩
def farP (p q:V):Int:=P6 p.1 p.2 q.1 q.2



structure MN (w0 : World) (s : Value) (o : List V) (w : World) : Prop where
 own:Own w w0.heap.size s o
 bel:Below w0.heap.size w0 w
theorem MN.keep {s:Value} {o:List V} {w w':World} (hb:Below w.heap.size w w') (h:MN w0 s o w):MN w0 s o w':=⟨h.own.below hb,aj hb h.bel⟩

structure MI (w0 : World) (g : Nat) (x y : Int) (s : Value) (o : List V) (w : World) : Prop where
 mn:MN w0 s o w
 a:w.cell? ⟨g,0,none⟩=some (.int .i64 x)
 b:w.cell? ⟨g,1,none⟩=some (.int .i64 y)
 ob:∀ k,s.ownBlock=some k→k≠g
theorem MI.keep {g:Nat} {x y:Int} {s:Value} {o:List V} {w w':World} (hb:Below w.heap.size w w') (h:MI w0 g x y s o w):MI w0 g x y s o w':=⟨h.mn.keep hb,keepCell hb h.a,keepCell hb h.b,h.ob⟩
theorem MI.app {g:Nat} {x y:Int} {s s':Value} {o o':List V} {w w':World} (h:MI w0 g x y s o w) (ho:Own w' w0.heap.size s' o') (hg:w.grownBy w' s.ownBlock) (hat:s'.ownBlock=s.ownBlock∨s'.ownBlock=some w.heap.size):MI w0 g x y s' o' w':=by
 have hne:some g≠s.ownBlock:=fun e=>h.ob g e.symm rfl
 refine ⟨⟨ho,h.mn.bel.grown hg h.mn.bel.size (fun k hk=>(World.ownsRow.lt h.mn.own k hk).1)⟩,hg.cell h.a hne,hg.cell h.b hne,fun k hk=>?_⟩
 rcases hat with q | q
 ·exact h.ob k (by rw [← q];exact hk)
 ·have := lt_of_cell h.a;rw [q] at hk
  cases hk
  omega
structure MW (w5 : World) (gT : Nat) (s : Value) (o : List V) (u v : Int) (w : World) : Prop where
 t0:w.cell? ⟨gT,0,none⟩=some (.int .i64 u)
 t1:w.cell? ⟨gT,1,none⟩=some (.int .i64 v)
 tf:∀ j,w.frozen? ⟨gT,j,none⟩=false
 own:Own w (gT+1) s o
 bel:Below w5.heap.size w5 w
 le:w5.heap.size≤gT
theorem MW.keep {w5:World} {gT:Nat} {s:Value} {o:List V} {u v:Int} {w w':World} (hb:Below w.heap.size w w') (h:MW w5 gT s o u v w):MW w5 gT s o u v w' :=
 ⟨keepCell hb h.t0,keepCell hb h.t1,fun j=>((dF hb).2 _ _ (lt_of_cell h.t0)).trans (h.tf j),h.own.below hb,aj hb h.bel,h.le⟩
theorem MW.drew {w5:World} {gT:Nat} {s:Value} {o:List V} {u v:Int} {w:World} (h:MW w5 gT s o u v w):MW w5 gT s o u v w.drew:=h.keep (Below.refl _ _).drew
theorem MW.app {w5:World} {gT:Nat} {s s':Value} {o o':List V} {u v:Int} {w w':World} {ob:Obj} (h:MW w5 gT s o u v w) (ho:Own w' (gT+1) s' o') (hb:Below (gT+1) (w.alloc ob) w'):MW w5 gT s' o' u v w' :=
 have h2:=h.keep ((Below.refl _ _).alloc (Nat.le_refl _) ob)
 ⟨((dF hb).1 _ _ (Nat.lt_succ_self gT)).trans h2.t0,((dF hb).1 _ _ (Nat.lt_succ_self gT)).trans h2.t1,fun j=>((dF hb).2 _ _ (Nat.lt_succ_self gT)).trans (h2.tf j),ho,h2.bel.trans (hb.mono (Nat.le_succ_of_le h.le)),h.le⟩
theorem MW.set {w5:World} {gT:Nat} {s:Value} {o:List V} {u v:Int} {w:World} (h:MW w5 gT s o u v w) (u' v':Int):MW w5 gT s o u' v' ((w.setCell ⟨gT,0,none⟩ (.int .i64 u')).setCell ⟨gT,1,none⟩ (.int .i64 v')):=by
 obtain ⟨t0,t1,tf,own,bel,le⟩:=h;exact ⟨by go_simp,by go_simp,fun j=>by go_simp,(own.kept (aN _ gT 0 _) (fun k e=>by cases e;exact Nat.lt_succ_self _)).kept (aN _ gT 1 _) (fun k e=>by cases e;exact Nat.lt_succ_self _),(bel.setCell (p:=⟨gT,0,none⟩) le _).setCell (p:=⟨gT,1,none⟩) le _,le⟩

structure VI (w : World) (g : Nat) : Prop where
 c:∃ a,w.cell? ⟨g,0,none⟩=some (.int .i64 a)
 free:∀ j,w.frozen? ⟨g,j,none⟩=false
theorem VI.here (w:World) (a:Int) (t:TypeId):VI (w.alloc (.cells #[.int .i64 a] t)) w.heap.size:=⟨⟨a,by go_simp⟩,fun j=>by go_simp⟩
theorem VI.drew {g:Nat} (h:VI w g):VI w.drew g:=⟨h.c,h.free⟩
end
end Go.Proofs.YtokgmcomgflloaaGreat
