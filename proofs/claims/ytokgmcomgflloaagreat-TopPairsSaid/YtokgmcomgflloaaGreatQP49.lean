/- Parts of a proof: contracts and laws. -/
import Derived.Test.YtokgmcomgflloaaGreatQP35
import Derived.Test.YtokgmcomgflloaaGreatQP34
import Derived.Test.YtokgmcomgflloaaGreatQP00
import Derived.Test.YtokgmcomgflloaaGreatQP03
import Derived.Test.YtokgmcomgflloaaGreatQP02
import Derived.Test.YtokgmcomgflloaaGreatQP08
import Derived.Deep.DeepCutAuto
import Derived.Laws.StructEq
import Derived.Maps.AppendAt
import Derived.Test.YtokgmcomgflloaaGreatQP20
import Derived.Test.YtokgmcomgflloaaGreatQP37
import Derived.Test.YtokgmcomgflloaaGreatQP36
import Derived.Test.YtokgmcomgflloaaGreatQP38
import Derived.Test.YtokgmcomgflloaaGreatQP39
import Derived.Test.YtokgmcomgflloaaGreatQP10
import Derived.Test.YtokgmcomgflloaaGreatQPLB
import Derived.Test.YtokgmcomgflloaaGreatQP09
set_option maxRecDepth 100000
set_option maxHeartbeats 16000000
namespace Go.Proofs.YtokgmcomgflloaaGreat
section
set_option linter.unusedVariables false
set_option linter.unusedSimpArgs false
open Go.RowKit
variable {w0 w w':World}
theorem xG {g:Nat} {x y:Int} (hb:Below w.heap.size w w') (h:Cf w g x y):Cf w' g x y:=⟨keepCell hb h.a,keepCell hb h.b⟩
theorem Cf.lt {g:Nat} {x y:Int} (h:Cf w g x y):g<w.heap.size:=lt_of_cell h.a
theorem Cf.far {g k:Nat} {x y:Int} (h:Cf w g x y) (hne:g≠k) (o:Nat) (v:Value):Cf (w.setCell ⟨k,o,none⟩ v) g x y:=by
 obtain ⟨a,b⟩:=h;exact ⟨by go_simp,by go_simp⟩

structure Lk (w wx : World) (gt gp gq : Nat) (fx fy ux uy tx ty ax ay bx by_ : Int) : Prop where
 f:Cf wx w.heap.size fx fy
 u:Cf wx (w.heap.size+1) ux uy
 t:Cf wx gt tx ty
 p:Cf wx gp ax ay
 q:Cf wx gq bx by_
 b:Below w.heap.size w wx
 l1:w.heap.size+1<gt
 l2:gt<gp
 l3:gp<gq
 lq:gq<wx.heap.size
section
variable {w0 w w':World}
variable {w wx wy:World} {gt gp gq:Nat} {fx fy ux uy tx ty ax ay bx by_:Int}
theorem Qr (hb:Below wx.heap.size wx wy) (h:Lk w wx gt gp gq fx fy ux uy tx ty ax ay bx by_):Lk w wy gt gp gq fx fy ux uy tx ty ax ay bx by_ :=
 ⟨xG hb h.f,xG hb h.u,xG hb h.t,xG hb h.p,xG hb h.q,aj hb h.b,h.l1,h.l2,h.l3,Nat.lt_of_lt_of_le h.lq hb.size⟩
theorem Lk.drew (h:Lk w wx gt gp gq fx fy ux uy tx ty ax ay bx by_):Lk w wx.drew gt gp gq fx fy ux uy tx ty ax ay bx by_:=Qr (Below.refl _ _).drew h
theorem Lk.far (h:Lk w wx gt gp gq fx fy ux uy tx ty ax ay bx by_) {g:Nat} (hg:gq<g) (o:Nat) (v:Value):Lk w (wx.setCell ⟨g,o,none⟩ v) gt gp gq fx fy ux uy tx ty ax ay bx by_:=by
 have:=h.l1;have:=h.l2;have:=h.l3;exact ⟨h.f.far (by omega) _ _,h.u.far (by omega) _ _,h.t.far (by omega) _ _,h.p.far (by omega) _ _,h.q.far (by omega) _ _,h.b.setCell (p:=⟨g,o,none⟩) (by show _≤g;omega) _,h.l1,h.l2,h.l3,by have:=h.lq;simpa using this⟩


end
def Rf (p q:V):Prop:=p.2<q.2∨(p.2=q.2∧p.1<q.1)
instance (p q:V):Decidable (Rf p q):=by unfold Rf;infer_instance

def Rk (o nx p:V):Prop:=nx=o∨cr (bC nx o) (bC p o)<0∨(cr (bC nx o) (bC p o)=0∧QS (nx.1-o.1) (nx.2-o.2)<QS (p.1-o.1) (p.2-o.2))
instance (o p q:V):Decidable (Rk o p q):=by unfold Rk;infer_instance

section
variable {w0 w w':World}
variable {l D:List V}
end



structure Vc (w : World) (g : Nat) (x y : Int) : Prop where
 a:w.cell? ⟨g,0,none⟩=some (.int .i64 x)
 b:w.cell? ⟨g,1,none⟩=some (.int .i64 y)
 f:∀ j,w.frozen? ⟨g,j,none⟩=false
theorem Az {g:Nat} {x y:Int} (hb:Below w.heap.size w w') (h:Vc w g x y):Vc w' g x y :=
 ⟨keepCell hb h.a,keepCell hb h.b,fun j=>((cO hb).2 _ _ (lt_of_cell h.a)).trans (h.f j)⟩
theorem Vc.lt {g:Nat} {x y:Int} (h:Vc w g x y):g<w.heap.size:=lt_of_cell h.a
theorem Vc.alloc {g:Nat} {x y:Int} (h:Vc w g x y) (o:Obj):Vc (w.alloc o) g x y:=Az Ba h
theorem Vc.drew {g:Nat} {x y:Int} (h:Vc w g x y):Vc w.drew g x y:=⟨h.a,h.b,h.f⟩
theorem Vc.here (w:World) (x y:Int) (t:TypeId):Vc (w.alloc (.cells #[.int .i64 x,.int .i64 y] t)) w.heap.size x y:=⟨by go_simp,by go_simp,fun j=>by go_simp⟩
theorem Vc.put {g:Nat} {x y:Int} (h:Vc w g x y) (u v:Int):Vc ((w.setCell ⟨g,0,none⟩ (.int .i64 u)).setCell ⟨g,1,none⟩ (.int .i64 v)) g u v:=by
 obtain ⟨a,b,f⟩:=h;exact ⟨by go_simp,by go_simp,fun j=>by go_simp⟩
theorem Vc.off {g b:Nat} {x y:Int} (h:Vc w b x y) (hne:g≠b) (u v:Value):Vc ((w.setCell ⟨g,0,none⟩ u).setCell ⟨g,1,none⟩ v) b x y:=by
 have hl:=h.lt;obtain ⟨a,b',f⟩:=h;have hne2:¬ b=g:=fun e=>hne e.symm
 exact ⟨far2 hne a,far2 hne b',fun j=>by go_simp⟩
theorem Own.off {B g:Nat} {s:Value} {l:List V} (h:Own w B s l) (hne:∀ k,s.ownBlock=some k→k≠g) (o:Nat) (u:Value):Own (w.setCell ⟨g,o,none⟩ u) B s l:=by
 refine World.ownsRow.kept h (aT _ g o _) ?_
 cases hv:s.ownBlock with
 | none=>exact .inl rfl
 | some k=>exact .inr fun e=>by cases e;exact hne _ hv rfl

structure WW (w0 : World) (gF : Nat) (s : Value) (o : List V) (F : V) (w : World) : Prop where
 vF:Vc w gF F.1 F.2
 own:Own w (gF+1) s o
 bel:Below w0.heap.size w0 w
 le:w0.heap.size≤gF
theorem WW.keep {gF:Nat} {s:Value} {o:List V} {F:V} {w w':World} (hb:Below w.heap.size w w') (h:WW w0 gF s o F w):WW w0 gF s o F w' :=
 ⟨Az hb h.vF,h.own.below hb,aj hb h.bel,h.le⟩
theorem WW.app {gF:Nat} {s s':Value} {o o':List V} {F:V} {w w':World} {ob:Obj} (h:WW w0 gF s o F w) (ho:Own w' (gF+1) s' o') (hb:Below (gF+1) (w.alloc ob) w'):WW w0 gF s' o' F w' :=
 have h2:=h.keep ((Below.refl _ _).alloc (Nat.le_refl _) ob)
 ⟨⟨((cO hb).1 _ _ (Nat.lt_succ_self gF)).trans h2.vF.a,((cO hb).1 _ _ (Nat.lt_succ_self gF)).trans h2.vF.b,fun j=>((cO hb).2 _ _ (Nat.lt_succ_self gF)).trans (h2.vF.f j)⟩,ho,h2.bel.trans (hb.mono (Nat.le_succ_of_le h.le)),h.le⟩

structure WN (w0 : World) (gF : Nat) (s : Value) (o : List V) (F : V) (gO gN : Nat) (q nx : V) (w : World) : Prop where
 ww:WW w0 gF s o F w
 vO:Vc w gO q.1 q.2
 vN:Vc w gN nx.1 nx.2
 ob:∀ k,s.ownBlock=some k→k<gN
 l1:gF<gO
 l2:gO<gN
theorem WN.keep {gF:Nat} {s:Value} {o:List V} {F:V} {gO gN:Nat} {q nx:V} {w w':World} (hb:Below w.heap.size w w') (h:WN w0 gF s o F gO gN q nx w):WN w0 gF s o F gO gN q nx w' :=
 ⟨h.ww.keep hb,Az hb h.vO,Az hb h.vN,h.ob,h.l1,h.l2⟩
theorem WN.put {gF:Nat} {s:Value} {o:List V} {F:V} {gO gN:Nat} {q nx:V} {w:World} (h:WN w0 gF s o F gO gN q nx w) (p:V):WN w0 gF s o F gO gN q p ((w.setCell ⟨gN,0,none⟩ (.int .i64 p.1)).setCell ⟨gN,1,none⟩ (.int .i64 p.2)):=by
 have:=h.l1;have:=h.l2;have:=h.ww.le;refine ⟨⟨h.ww.vF.off (by omega) _ _,(h.ww.own.off (fun k hk=>by have:=h.ob k hk;omega) _ _).off (fun k hk=>by have:=h.ob k hk;omega) _ _,(h.ww.bel.setCell (p:=⟨gN,0,none⟩) (by show _≤gN;omega) _).setCell (p:=⟨gN,1,none⟩) (by show _≤gN;omega) _,h.ww.le⟩,h.vO.off (by omega) _ _,h.vN.put _ _,h.ob,h.l1,h.l2⟩
def farP (p q:V):Int:=farZ p.1 p.2 q.1 q.2



structure MN (w0 : World) (s : Value) (o : List V) (w : World) : Prop where
 own:Own w w0.heap.size s o
 bel:Below w0.heap.size w0 w
theorem MN.keep {s:Value} {o:List V} {w w':World} (hb:Below w.heap.size w w') (h:MN w0 s o w):MN w0 s o w':=⟨h.own.below hb,aj hb h.bel⟩

structure MI (w0 : World) (g : Nat) (x y : Int) (s : Value) (o : List V) (w : World) : Prop where
 mn:MN w0 s o w
 a:w.cell? ⟨g,0,none⟩=some (.int .i64 x)
 b:w.cell? ⟨g,1,none⟩=some (.int .i64 y)
 ob:∀ k,s.ownBlock=some k→k≠g
theorem MI.keep {g:Nat} {x y:Int} {s:Value} {o:List V} {w w':World} (hb:Below w.heap.size w w') (h:MI w0 g x y s o w):MI w0 g x y s o w':=⟨h.mn.keep hb,keepCell hb h.a,keepCell hb h.b,h.ob⟩
theorem MI.app {g:Nat} {x y:Int} {s s':Value} {o o':List V} {w w':World} (h:MI w0 g x y s o w) (ho:Own w' w0.heap.size s' o') (hg:w.grownBy w' s.ownBlock) (hat:s'.ownBlock=s.ownBlock∨s'.ownBlock=some w.heap.size):MI w0 g x y s' o' w':=by
 have hne:some g≠s.ownBlock:=fun e=>h.ob g e.symm rfl
 refine ⟨⟨ho,h.mn.bel.grown hg h.mn.bel.size (fun k hk=>(World.ownsRow.lt h.mn.own k hk).1)⟩,hg.cell h.a hne,hg.cell h.b hne,fun k hk=>?_⟩
 rcases hat with q | q
 ·exact h.ob k (by rw [← q];exact hk)
 ·have := lt_of_cell h.a;rw [q] at hk
  cases hk
  omega
theorem Np {L:List BE} (h:∀ x ∈ L,nK x.b∧Made x.l):∀ x ∈ L,bG x.b x.l=0:=fun x hx=>ND (h x hx).1 (h x hx).2
end
end Go.Proofs.YtokgmcomgflloaaGreat
