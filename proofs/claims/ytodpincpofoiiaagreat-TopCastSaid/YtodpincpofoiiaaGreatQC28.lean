/- Parts of a proof: contracts and laws. -/
import Derived.Test.YtodpincpofoiiaaGreatQC19
import Derived.Test.YtodpincpofoiiaaGreatQC01
import Derived.Test.YtodpincpofoiiaaGreatQC00
import Derived.Deep.RegionLaw
import Derived.Deep.RegionHeld3
import Derived.Deep.DeepCutAuto
import Derived.Laws.IdiomCopy
import Derived.Test.YtodpincpofoiiaaGreatQC03
import Derived.Test.YtodpincpofoiiaaGreatQC06
import Derived.Test.YtodpincpofoiiaaGreatQC08
import Derived.Test.YtodpincpofoiiaaGreatQC04
import Derived.Test.YtodpincpofoiiaaGreatQC11
import Derived.Test.YtodpincpofoiiaaGreatQC17
import Derived.Test.YtodpincpofoiiaaGreatQC15
set_option maxRecDepth 100000
set_option maxHeartbeats 16000000
namespace Go.Proofs.YtodpincpofoiiaaGreat
section
set_option linter.unusedVariables false
set_option linter.unusedSimpArgs false
open Go.RowKit


def bothE (l m:List V):Int:=if checkE l≠0 then checkE l else checkE m
end
end Go.Proofs.YtodpincpofoiiaaGreat
namespace Go.Proofs.YtodpincpofoiiaaGreat
section
set_option linter.unusedVariables false
set_option linter.unusedSimpArgs false
open Go.RowKit


def bk (M:Int) (k:Nat):Int:=M / 2 ^ k % 2




theorem Blk8.fresh {w:World} {g:Nat} {t:TypeId} (hg:g=w.heap.size):Blk8 (w.alloc (.cells #[.int .u32 0,.int .u32 0,.int .u32 0,.int .u32 0,.int .u32 0,.int .u32 0,.int .u32 0,.int .u32 0] t)) g (fun _=>0):=by
 subst hg
 exact Blk8.here w t (fun _=>0)
theorem Blk8.lit {w:World} {g:Nat} {o:Nat→Int} {t:TypeId} (hg:g=w.heap.size):Blk8 (w.alloc (.cells #[.int .u32 (o 0),.int .u32 (o 1),.int .u32 (o 2),.int .u32 (o 3),.int .u32 (o 4),.int .u32 (o 5),.int .u32 (o 6),.int .u32 (o 7)] t)) g o:=by
 subst hg
 exact Blk8.here w t o
theorem Blk8.later {w:World} {g:Nat} {o:Nat→Int} (h:Blk8 w g o) (x:Obj):Blk8 (w.alloc x) g o:=h.alloc h.lt x
end
end Go.Proofs.YtodpincpofoiiaaGreat
namespace Go.Proofs.YtodpincpofoiiaaGreat
section
set_option linter.unusedVariables false
set_option linter.unusedSimpArgs false
open Go.RowKit

abbrev Ax:=Bool × Nat × Int
def axS (s:Option Ax):Bool:=match s with | none=>false | some a=>a.1
def axE (s:Option Ax):Nat:=match s with | none=>0 | some a=>a.2.1
def axD (s:Option Ax):Int:=match s with | none=>0 | some a=>a.2.2

structure AxAt (w : World) (g : Nat) (s : Option Ax) : Prop where
 c0:w.cell? ⟨g,0,none⟩=some (.bool (axS s))
 c1:w.cell? ⟨g,1,none⟩=some (.int .i64 (axE s))
 c2:w.cell? ⟨g,2,none⟩=some (.int .i64 (axD s))
 free:∀ j,w.frozen? ⟨g,j,none⟩=false
theorem keepAx {w w':World} {g:Nat} {s:Option Ax} (hb:Below w.heap.size w w') (h:AxAt w g s):AxAt w' g s :=
 ⟨keepCell hb h.c0,keepCell hb h.c1,keepCell hb h.c2,fun j=>((bcell hb).2 _ _ (lt_of_cell h.c0)).trans (h.free j)⟩
theorem AxAt.lt {w:World} {g:Nat} {s:Option Ax} (h:AxAt w g s):g<w.heap.size:=lt_of_cell h.c0
theorem AxAt.here (w:World) (t:TypeId):AxAt (w.alloc (.cells #[.bool false,.int .i64 0,.int .i64 0] t)) w.heap.size none:=⟨by go_simp;rfl,by go_simp;rfl,by go_simp;rfl,fun j=>by go_simp⟩
theorem AxAt.away {w:World} {g:Nat} {s:Option Ax} (h:AxAt w g s) (k o:Nat) (v:Value) (hne:k≠g):AxAt (w.setCell ⟨k,o,none⟩ v) g s :=
 ⟨far1 hne h.c0,far1 hne h.c1,far1 hne h.c2,fun j=>by rw [World.frozen?_setCell];exact h.free j⟩
def setAx (w:World) (g:Nat) (s:Option Ax):World:=((w.setCell ⟨g,0,none⟩ (.bool (axS s))).setCell ⟨g,1,none⟩ (.int .i64 (axE s))).setCell ⟨g,2,none⟩ (.int .i64 (axD s))
theorem AxAt.set {w:World} {g:Nat} {s:Option Ax} (h:AxAt w g s) (t:Option Ax):AxAt (setAx w g t) g t:=by
 obtain ⟨h0,h1,h2,hf⟩:=h
 unfold setAx
 exact ⟨by go_simp,by go_simp,by go_simp,fun j=>by go_simp⟩
theorem AxAt.setO {w:World} {g k:Nat} {s:Option Ax} (h:AxAt w g s) (t:Option Ax) (hne:k≠g):AxAt (setAx w k t) g s:=((h.away k _ _ hne).away k _ _ hne).away k _ _ hne

structure LW (w0 : World) (gB : Nat) (l m : List V) (A B : Option Addr) (c c' : Nat) (s : Option Ax) (w : World) : Prop where
 r:AxAt w w0.heap.size none
 b:AxAt w gB s
 d0:w.cell? ⟨gB+1,0,none⟩=some (.slice A l.length c)
 d1:w.cell? ⟨gB+1,1,none⟩=some (.slice B m.length c')
 d2:w.cell? ⟨gB+1,2,none⟩=some (.slice B m.length c')
 d3:w.cell? ⟨gB+1,3,none⟩=some (.slice A l.length c)
 bel:Below w0.heap.size w0 w
 le:w0.heap.size<gB
theorem LW.keep {w0:World} {gB:Nat} {l m:List V} {A B:Option Addr} {c c':Nat} {s:Option Ax} {w w':World} (hb:Below w.heap.size w w') (h:LW w0 gB l m A B c c' s w):LW w0 gB l m A B c c' s w' :=
 ⟨keepAx hb h.r,keepAx hb h.b,keepCell hb h.d0,keepCell hb h.d1,keepCell hb h.d2,keepCell hb h.d3,keepBelow hb h.bel,h.le⟩
theorem LW.drew {w0:World} {gB:Nat} {l m:List V} {A B:Option Addr} {c c':Nat} {s:Option Ax} {w:World} (h:LW w0 gB l m A B c c' s w):LW w0 gB l m A B c c' s w.drew:=h.keep (Below.refl _ _).drew
theorem LW.set {w0:World} {gB:Nat} {l m:List V} {A B:Option Addr} {c c':Nat} {s:Option Ax} {w:World} (h:LW w0 gB l m A B c c' s w) (t:Option Ax):LW w0 gB l m A B c c' t (setAx w gB t):=by
 have e:∀ o v,w.cell? ⟨gB+1,o,none⟩=some v→(setAx w gB t).cell? ⟨gB+1,o,none⟩=some v:=fun o v hv=>far1 (by omega) (far1 (by omega) (far1 (by omega) hv))
 have hle:=h.le
 exact ⟨h.r.setO t (by omega),h.b.set t,e _ _ h.d0,e _ _ h.d1,e _ _ h.d2,e _ _ h.d3,((h.bel.setCell (p:=⟨gB,0,none⟩) (Nat.le_of_lt hle) _).setCell (p:=⟨gB,1,none⟩) (Nat.le_of_lt hle) _).setCell (p:=⟨gB,2,none⟩) (Nat.le_of_lt hle) _,hle⟩
end
end Go.Proofs.YtodpincpofoiiaaGreat
namespace Go.Proofs.YtodpincpofoiiaaGreat
section
set_option linter.unusedVariables false
set_option linter.unusedSimpArgs false
open Go.RowKit

theorem AxAt.drew {w:World} {g:Nat} {s:Option Ax} (h:AxAt w g s):AxAt w.drew g s:=⟨h.c0,h.c1,h.c2,h.free⟩
end
end Go.Proofs.YtodpincpofoiiaaGreat
namespace Go.Proofs.YtodpincpofoiiaaGreat
section
set_option linter.unusedVariables false
set_option linter.unusedSimpArgs false
open Go.RowKit
section
variable {l m:List V} {u v:Int}
end







end
end Go.Proofs.YtodpincpofoiiaaGreat
namespace Go.Proofs.YtodpincpofoiiaaGreat
section
set_option linter.unusedVariables false
set_option linter.unusedSimpArgs false
open Go.RowKit


def rD (s:Option Ax):Int:=match s with | none => -1 | some a=>a.2.2
structure AxC (w : World) (g : Nat) (s : Bool) (e d : Int) : Prop where
 c0:w.cell? ⟨g,0,none⟩=some (.bool s)
 c1:w.cell? ⟨g,1,none⟩=some (.int .i64 e)
 c2:w.cell? ⟨g,2,none⟩=some (.int .i64 d)
 free:∀ j,w.frozen? ⟨g,j,none⟩=false
theorem AxC.keep {w w':World} {g:Nat} {s:Bool} {e d:Int} (hb:Below w.heap.size w w') (h:AxC w g s e d):AxC w' g s e d :=
 ⟨keepCell hb h.c0,keepCell hb h.c1,keepCell hb h.c2,fun j=>((bcell hb).2 _ _ (lt_of_cell h.c0)).trans (h.free j)⟩
theorem AxC.here (w:World) (s:Bool) (e d:Int) (t:TypeId):AxC (w.alloc (.cells #[.bool s,.int .i64 e,.int .i64 d] t)) w.heap.size s e d:=⟨by go_simp,by go_simp,by go_simp,fun j=>by go_simp⟩
theorem AxC.away {w:World} {g:Nat} {s:Bool} {e d:Int} (h:AxC w g s e d) (k o:Nat) (v:Value) (hne:k≠g):AxC (w.setCell ⟨k,o,none⟩ v) g s e d :=
 ⟨far1 hne h.c0,far1 hne h.c1,far1 hne h.c2,fun j=>by rw [World.frozen?_setCell];exact h.free j⟩
theorem AxC.set {w:World} {g:Nat} {s:Bool} {e d:Int} (h:AxC w g s e d) (s':Bool) (e' d':Int):AxC (((w.setCell ⟨g,0,none⟩ (.bool s')).setCell ⟨g,1,none⟩ (.int .i64 e')).setCell ⟨g,2,none⟩ (.int .i64 d')) g s' e' d':=by
 obtain ⟨h0,h1,h2,hf⟩:=h
 exact ⟨by go_simp,by go_simp,by go_simp,fun j=>by go_simp⟩
structure RW (w0 : World) (s : Option Ax) (w : World) : Prop where
 r:AxC w w0.heap.size false 0 0
 b:AxC w (w0.heap.size+1) (axS s) (axE s) (rD s)
 bel:Below w0.heap.size w0 w
 le:w0.heap.size+1<w.heap.size
theorem RW.keep {w0:World} {s:Option Ax} {w w':World} (hb:Below w.heap.size w w') (h:RW w0 s w):RW w0 s w':=⟨h.r.keep hb,h.b.keep hb,keepBelow hb h.bel,Nat.lt_of_lt_of_le h.le hb.size⟩
theorem RW.set {w0:World} {s:Option Ax} {w:World} (h:RW w0 s w) (t:Option Ax):RW w0 t (((w.setCell ⟨w0.heap.size+1,0,none⟩ (.bool (axS t))).setCell ⟨w0.heap.size+1,1,none⟩ (.int .i64 (axE t))).setCell ⟨w0.heap.size+1,2,none⟩ (.int .i64 (rD t))) :=
 ⟨((h.r.away _ _ _ (by omega)).away _ _ _ (by omega)).away _ _ _ (by omega),h.b.set _ _ _,((h.bel.setCell (p:=⟨w0.heap.size+1,0,none⟩) (Nat.le_succ _) _).setCell (p:=⟨w0.heap.size+1,1,none⟩) (Nat.le_succ _) _).setCell (p:=⟨w0.heap.size+1,2,none⟩) (Nat.le_succ _) _,by simpa [World.setCell] using h.le⟩
end
end Go.Proofs.YtodpincpofoiiaaGreat
namespace Go.Proofs.YtodpincpofoiiaaGreat
section
set_option linter.unusedVariables false
set_option linter.unusedSimpArgs false
open Go.RowKit

structure Vm (w : World) (g : Nat) (x y : Int) : Prop where
 a:w.cell? ⟨g,0,none⟩=some (.int .i64 x)
 b:w.cell? ⟨g,1,none⟩=some (.int .i64 y)
 f:∀ j,w.frozen? ⟨g,j,none⟩=false
theorem keepVm {w w':World} {g:Nat} {x y:Int} (hb:Below w.heap.size w w') (h:Vm w g x y):Vm w' g x y :=
 ⟨keepCell hb h.a,keepCell hb h.b,fun j=>((bcell hb).2 _ _ (lt_of_cell h.a)).trans (h.f j)⟩
theorem Vm.lt {w:World} {g:Nat} {x y:Int} (h:Vm w g x y):g<w.heap.size:=lt_of_cell h.a
theorem Vm.drew {w:World} {g:Nat} {x y:Int} (h:Vm w g x y):Vm w.drew g x y:=⟨h.a,h.b,h.f⟩
theorem Vm.vz {w:World} {g:Nat} {x y:Int} (h:Vm w g x y):VZ w g:=⟨⟨_,_,h.a,h.b⟩,h.f⟩
theorem Vm.here (w:World) (x y:Int) (t:TypeId):Vm (w.alloc (.cells #[.int .i64 x,.int .i64 y] t)) w.heap.size x y:=⟨by go_simp,by go_simp,fun j=>by go_simp⟩
abbrev put2 (w:World) (g:Nat) (x y:Int):World:=(w.setCell ⟨g,0,none⟩ (.int .i64 x)).setCell ⟨g,1,none⟩ (.int .i64 y)
theorem Vm.new {w:World} {g:Nat} (h:VZ w g) (x y:Int):Vm (put2 w g x y) g x y:=by
 obtain ⟨⟨_,_,z0,z1⟩,zf⟩:=h
 have hgl:=lt_of_cell z0
 exact ⟨by go_simp,by go_simp,fun j=>by go_simp⟩
theorem Vm.set {w:World} {g:Nat} {a b:Int} (h:Vm w g a b) (x y:Int):Vm (put2 w g x y) g x y:=Vm.new h.vz x y
theorem Vm.off2 {w:World} {g k:Nat} {x y:Int} (h:Vm w g x y) (hne:k≠g) (a b:Int):Vm (put2 w k a b) g x y :=
 ⟨far2 hne h.a,far2 hne h.b,fun j=>by rw [World.frozen?_setCell,World.frozen?_setCell];exact h.f j⟩
theorem VZ.off2 {w:World} {g k:Nat} (h:VZ w g) (hne:k≠g) (a b:Int):VZ (put2 w k a b) g:=by
 obtain ⟨⟨u,v,z0,z1⟩,zf⟩:=h
 exact ⟨⟨u,v,far2 hne z0,far2 hne z1⟩,fun j=>by rw [World.frozen?_setCell,World.frozen?_setCell];exact zf j⟩
theorem below_two {B:Nat} {w w':World} (h:Below B w w') {g:Nat} (hg:B≤g) (x y:Int):Below B w (put2 w' g x y):=(h.setCell (p:=⟨g,0,none⟩) hg _).setCell (p:=⟨g,1,none⟩) hg _


end
end Go.Proofs.YtodpincpofoiiaaGreat
namespace Go.Proofs.YtodpincpofoiiaaGreat
section
set_option linter.unusedVariables false
set_option linter.unusedSimpArgs false
open Go.RowKit







structure OA (w0 : World) (gX gW : Nat) (s : Bool) (e : Nat) (wx wy : Int) (w : World) : Prop where
 x0:w.cell? ⟨gX,0,none⟩=some (.bool s)
 x1:w.cell? ⟨gX,1,none⟩=some (.int .i64 e)
 m0:w.cell? ⟨gW,0,none⟩=some (.int .i64 wx)
 m1:w.cell? ⟨gW,1,none⟩=some (.int .i64 wy)
 bel:Below w0.heap.size w0 w
theorem OA.keep {w0:World} {gX gW:Nat} {s:Bool} {e:Nat} {wx wy:Int} {w w':World} (hb:Below w.heap.size w w') (h:OA w0 gX gW s e wx wy w):OA w0 gX gW s e wx wy w' :=
 ⟨keepCell hb h.x0,keepCell hb h.x1,keepCell hb h.m0,keepCell hb h.m1,keepBelow hb h.bel⟩
theorem OA.drew {w0:World} {gX gW:Nat} {s:Bool} {e:Nat} {wx wy:Int} {w:World} (h:OA w0 gX gW s e wx wy w):OA w0 gX gW s e wx wy w.drew:=h.keep (Below.refl _ _).drew
structure OB (w0 : World) (gX gW gN : Nat) (s : Bool) (e : Nat) (wx wy n1 n2 : Int) (w : World) : Prop where
 oa:OA w0 gX gW s e wx wy w
 k0:w.cell? ⟨gN,0,none⟩=some (.int .i64 n1)
 k1:w.cell? ⟨gN,1,none⟩=some (.int .i64 n2)
theorem OB.keep {w0:World} {gX gW gN:Nat} {s:Bool} {e:Nat} {wx wy n1 n2:Int} {w w':World} (hb:Below w.heap.size w w') (h:OB w0 gX gW gN s e wx wy n1 n2 w):OB w0 gX gW gN s e wx wy n1 n2 w':=⟨h.oa.keep hb,keepCell hb h.k0,keepCell hb h.k1⟩
theorem OB.drew {w0:World} {gX gW gN:Nat} {s:Bool} {e:Nat} {wx wy n1 n2:Int} {w:World} (h:OB w0 gX gW gN s e wx wy n1 n2 w):OB w0 gX gW gN s e wx wy n1 n2 w.drew:=h.keep (Below.refl _ _).drew
theorem OA.off2 {w0:World} {gX gW:Nat} {s:Bool} {e:Nat} {wx wy:Int} {w:World} (h:OA w0 gX gW s e wx wy w) {k:Nat} (h1:k≠gX) (h2:k≠gW) (h3:w0.heap.size≤k) (x y:Int):OA w0 gX gW s e wx wy (put2 w k x y) :=
 ⟨far2 h1 h.x0,far2 h1 h.x1,far2 h2 h.m0,far2 h2 h.m1,below_two h.bel h3 x y⟩
theorem OB.off2 {w0:World} {gX gW gN:Nat} {s:Bool} {e:Nat} {wx wy n1 n2:Int} {w:World} (h:OB w0 gX gW gN s e wx wy n1 n2 w) {k:Nat} (h1:k≠gX) (h2:k≠gW) (h4:k≠gN) (h3:w0.heap.size≤k) (x y:Int):OB w0 gX gW gN s e wx wy n1 n2 (put2 w k x y) :=
 ⟨h.oa.off2 h1 h2 h3 x y,far2 h4 h.k0,far2 h4 h.k1⟩
structure OS (w0 : World) (gX gW gN gR gS : Nat) (s : Bool) (e : Nat) (wx wy n1 n2 r1 r2 s1 s2 : Int) (w : World) : Prop where
 ob:OB w0 gX gW gN s e wx wy n1 n2 w
 a0:w.cell? ⟨gR,0,none⟩=some (.int .i64 r1)
 a1:w.cell? ⟨gR,1,none⟩=some (.int .i64 r2)
 b0:w.cell? ⟨gS,0,none⟩=some (.int .i64 s1)
 b1:w.cell? ⟨gS,1,none⟩=some (.int .i64 s2)
theorem OS.keep {w0:World} {gX gW gN gR gS:Nat} {s:Bool} {e:Nat} {wx wy n1 n2 r1 r2 s1 s2:Int} {w w':World} (hb:Below w.heap.size w w') (h:OS w0 gX gW gN gR gS s e wx wy n1 n2 r1 r2 s1 s2 w):OS w0 gX gW gN gR gS s e wx wy n1 n2 r1 r2 s1 s2 w' :=
 ⟨h.ob.keep hb,keepCell hb h.a0,keepCell hb h.a1,keepCell hb h.b0,keepCell hb h.b1⟩
theorem OS.drew {w0:World} {gX gW gN gR gS:Nat} {s:Bool} {e:Nat} {wx wy n1 n2 r1 r2 s1 s2:Int} {w:World} (h:OS w0 gX gW gN gR gS s e wx wy n1 n2 r1 r2 s1 s2 w):OS w0 gX gW gN gR gS s e wx wy n1 n2 r1 r2 s1 s2 w.drew:=h.keep (Below.refl _ _).drew
theorem OS.off2 {w0:World} {gX gW gN gR gS:Nat} {s:Bool} {e:Nat} {wx wy n1 n2 r1 r2 s1 s2:Int} {w:World} (h:OS w0 gX gW gN gR gS s e wx wy n1 n2 r1 r2 s1 s2 w) {k:Nat} (hk:k≠gX∧k≠gW∧k≠gN∧k≠gR∧k≠gS) (h3:w0.heap.size≤k) (x y:Int):OS w0 gX gW gN gR gS s e wx wy n1 n2 r1 r2 s1 s2 (put2 w k x y) :=
 ⟨h.ob.off2 hk.1 hk.2.1 hk.2.2.1 h3 x y,far2 hk.2.2.2.1 h.a0,far2 hk.2.2.2.1 h.a1,far2 hk.2.2.2.2 h.b0,far2 hk.2.2.2.2 h.b1⟩

structure OP (w0 : World) (gX gW gN gR gS : Nat) (s : Bool) (e : Nat) (wx wy n1 n2 r1 r2 s1 s2 : Int) (gP gQ : Nat) (p q : V) (w : World) : Prop where
 os:OS w0 gX gW gN gR gS s e wx wy n1 n2 r1 r2 s1 s2 w
 vp:Vm w gP p.1 p.2
 vq:Vm w gQ q.1 q.2
 ne:gP≠gQ
 ap:gP≠gX∧gP≠gW∧gP≠gN∧gP≠gR∧gP≠gS
 aq:gQ≠gX∧gQ≠gW∧gQ≠gN∧gQ≠gR∧gQ≠gS
 lp:w0.heap.size≤gP
 lq:w0.heap.size≤gQ
section
variable {w0:World} {gX gW gN gR gS:Nat} {s:Bool} {e:Nat} {wx wy n1 n2 r1 r2 s1 s2:Int} {gP gQ:Nat} {p q:V} {w w':World}
theorem OP.keep (hb:Below w.heap.size w w') (h:OP w0 gX gW gN gR gS s e wx wy n1 n2 r1 r2 s1 s2 gP gQ p q w):OP w0 gX gW gN gR gS s e wx wy n1 n2 r1 r2 s1 s2 gP gQ p q w' :=
 ⟨h.os.keep hb,keepVm hb h.vp,keepVm hb h.vq,h.ne,h.ap,h.aq,h.lp,h.lq⟩
theorem OP.cells (h:OP w0 gX gW gN gR gS s e wx wy n1 n2 r1 r2 s1 s2 gP gQ p q w):w.cell? ⟨gR,0,none⟩=some (.int .i64 r1)∧w.cell? ⟨gR,1,none⟩=some (.int .i64 r2)∧w.cell? ⟨gS,0,none⟩=some (.int .i64 s1)∧w.cell? ⟨gS,1,none⟩=some (.int .i64 s2)∧w.cell? ⟨gP,0,none⟩=some (.int .i64 p.1)∧w.cell? ⟨gP,1,none⟩=some (.int .i64 p.2)∧w.cell? ⟨gQ,0,none⟩=some (.int .i64 q.1)∧w.cell? ⟨gQ,1,none⟩=some (.int .i64 q.2) :=
 ⟨h.os.a0,h.os.a1,h.os.b0,h.os.b1,h.vp.a,h.vp.b,h.vq.a,h.vq.b⟩
end
end
end Go.Proofs.YtodpincpofoiiaaGreat
namespace Go.Proofs.YtodpincpofoiiaaGreat
section
set_option linter.unusedVariables false
set_option linter.unusedSimpArgs false
open Go.RowKit
def plB (x:BE):List V:=placeL x.b x.l

def bxB (x:BE):Bx:=((minL (xsL (plB x)),minL (ysL (plB x))),(maxL (xsL (plB x)),maxL (ysL (plB x))))
def massN (L:List BE) (i:Nat):Int:=match L[i]? with | some x=>x.b.mass | none=>0

def still2 (L:List BE) (p:Nat × Nat):Bool:=decide (massN L p.1=0) && decide (massN L p.2=0)
def nearL (L:List BE):List (Nat × Nat):=(pairsL (L.map bxB)).filter fun p => !still2 L p


theorem massN_at {L:List BE} {i:Nat} (h:i<L.length):massN L i=L[i].b.mass:=by unfold massN;rw [List.getElem?_eq_getElem h]

theorem flatK_len {α β : Type} {f : α → List β} {n : Nat} (h : ∀ a, (f a).length ≤ n) : ∀ l : List α, (l.flatMap f).length ≤ l.length * n
 | []=>by simp
 | a :: l=>by
  rw [List.flatMap_cons,List.length_append,List.length_cons,Nat.add_mul,Nat.one_mul]
  have:=h a
  have:=flatK_len h l
  omega
theorem pairs_len (l:List Bx):(pairsL l).length≤l.length*l.length:=by
 have h1:=flatK_len (f:=fun i=>rowP l i l.length) (n:=l.length) (fun i=>by unfold rowP;rw [List.length_map];exact Nat.le_trans (List.length_filter_le _ _) (by simp)) (List.range l.length)
 rw [List.length_range] at h1
 exact h1

end
end Go.Proofs.YtodpincpofoiiaaGreat
