/- Parts of a proof: contracts and laws. -/
import Derived.Test.YtokgmcomgflloaaGreatQX02
import Derived.Test.YtokgmcomgflloaaGreatQX01
import Derived.Deep.RegionLaw
import Derived.Deep.RegionHeld3
import Derived.Deep.DeepCutAuto
import Derived.Laws.IdiomCopy
import Derived.Test.YtokgmcomgflloaaGreatQX03
import Derived.Test.YtokgmcomgflloaaGreatQX06
import Derived.Test.YtokgmcomgflloaaGreatQX19
import Derived.Test.YtokgmcomgflloaaGreatQX18
import Derived.Test.YtokgmcomgflloaaGreatQX08
import Derived.Test.YtokgmcomgflloaaGreatQX04
import Derived.Test.YtokgmcomgflloaaGreatQX10
import Derived.Test.YtokgmcomgflloaaGreatQX12
import Derived.Test.YtokgmcomgflloaaGreatQX22
import Derived.Test.YtokgmcomgflloaaGreatQX16
import Derived.Test.YtokgmcomgflloaaGreatQX13
set_option maxRecDepth 100000
set_option maxHeartbeats 16000000
namespace Go.Proofs.YtokgmcomgflloaaGreat
section
set_option linter.unusedVariables false
set_option linter.unusedSimpArgs false
open Go.RowKit
variable {w0 w w':World}






theorem bD.far8 {g b:Nat} {o:Nat→Int} {v0 v1 v2 v3 v4 v5 v6 v7:Value} (h:bD w g o) (hb:b≠g):bD ((((((((w.setCell ⟨b,0,none⟩ v0).setCell ⟨b,1,none⟩ v1).setCell ⟨b,2,none⟩ v2).setCell ⟨b,3,none⟩ v3).setCell ⟨b,4,none⟩ v4).setCell ⟨b,5,none⟩ v5).setCell ⟨b,6,none⟩ v6).setCell ⟨b,7,none⟩ v7) g o :=
 (((((((h.far hb _).far hb _).far hb _).far hb _).far hb _).far hb _).far hb _).far hb _
theorem bD.fresh {g:Nat} {t:TypeId} (hg:g=w.heap.size):bD (w.alloc (.cells #[.int .u32 0,.int .u32 0,.int .u32 0,.int .u32 0,.int .u32 0,.int .u32 0,.int .u32 0,.int .u32 0] t)) g (fun _=>0):=by
 subst hg;exact bD.here w t (fun _=>0)
theorem bD.lit {g:Nat} {o:Nat→Int} {t:TypeId} (hg:g=w.heap.size):bD (w.alloc (.cells #[.int .u32 (o 0),.int .u32 (o 1),.int .u32 (o 2),.int .u32 (o 3),.int .u32 (o 4),.int .u32 (o 5),.int .u32 (o 6),.int .u32 (o 7)] t)) g o:=by
 subst hg;exact bD.here w t o
abbrev Ax:=Bool × Nat × Int
def IX (s:Option Ax):Bool:=match s with | none=>false | some a=>a.1
def IW (s:Option Ax):Nat:=match s with | none=>0 | some a=>a.2.1
def Ji (s:Option Ax):Int:=match s with | none=>0 | some a=>a.2.2

structure jU (w : World) (g : Nat) (s : Option Ax) : Prop where
 c0:w.cell? ⟨g,0,none⟩=some (.bool (IX s))
 c1:w.cell? ⟨g,1,none⟩=some (.int .i64 (IW s))
 c2:w.cell? ⟨g,2,none⟩=some (.int .i64 (Ji s))
 free:∀ j,w.frozen? ⟨g,j,none⟩=false
theorem Fq {g:Nat} {s:Option Ax} (hb:Below w.heap.size w w') (h:jU w g s):jU w' g s :=
 ⟨keepCell hb h.c0,keepCell hb h.c1,keepCell hb h.c2,fun j=>((bX hb).2 _ _ (lt_of_cell h.c0)).trans (h.free j)⟩
theorem jU.lt {g:Nat} {s:Option Ax} (h:jU w g s):g<w.heap.size:=lt_of_cell h.c0
theorem jU.here (w:World) (t:TypeId):jU (w.alloc (.cells #[.bool false,.int .i64 0,.int .i64 0] t)) w.heap.size none:=⟨by go_simp;rfl,by go_simp;rfl,by go_simp;rfl,fun j=>by go_simp⟩
theorem jU.away {g:Nat} {s:Option Ax} (h:jU w g s) (k o:Nat) (v:Value) (hne:k≠g):jU (w.setCell ⟨k,o,none⟩ v) g s :=
 ⟨aW hne h.c0,aW hne h.c1,aW hne h.c2,fun j=>by rw [World.frozen?_setCell];exact h.free j⟩
def wL (w:World) (g:Nat) (s:Option Ax):World:=((w.setCell ⟨g,0,none⟩ (.bool (IX s))).setCell ⟨g,1,none⟩ (.int .i64 (IW s))).setCell ⟨g,2,none⟩ (.int .i64 (Ji s))
theorem jU.set {g:Nat} {s:Option Ax} (h:jU w g s) (t:Option Ax):jU (wL w g t) g t:=by
 obtain ⟨h0,h1,h2,hf⟩:=h;unfold wL;exact ⟨by go_simp,by go_simp,by go_simp,fun j=>by go_simp⟩
theorem jU.setO {g k:Nat} {s:Option Ax} (h:jU w g s) (t:Option Ax) (hne:k≠g):jU (wL w k t) g s:=((h.away k _ _ hne).away k _ _ hne).away k _ _ hne

structure LW (w0 : World) (gB : Nat) (l m : List V) (A B : Option Addr) (c c' : Nat) (s : Option Ax) (w : World) : Prop where
 r:jU w w0.heap.size none
 b:jU w gB s
 d0:w.cell? ⟨gB+1,0,none⟩=some (.slice A l.length c)
 d1:w.cell? ⟨gB+1,1,none⟩=some (.slice B m.length c')
 d2:w.cell? ⟨gB+1,2,none⟩=some (.slice B m.length c')
 d3:w.cell? ⟨gB+1,3,none⟩=some (.slice A l.length c)
 bel:Below w0.heap.size w0 w
 le:w0.heap.size<gB
theorem LW.keep {gB:Nat} {l m:List V} {A B:Option Addr} {c c':Nat} {s:Option Ax} {w w':World} (hb:Below w.heap.size w w') (h:LW w0 gB l m A B c c' s w):LW w0 gB l m A B c c' s w' :=
 ⟨Fq hb h.r,Fq hb h.b,keepCell hb h.d0,keepCell hb h.d1,keepCell hb h.d2,keepCell hb h.d3,ah hb h.bel,h.le⟩
theorem LW.drew {gB:Nat} {l m:List V} {A B:Option Addr} {c c':Nat} {s:Option Ax} {w:World} (h:LW w0 gB l m A B c c' s w):LW w0 gB l m A B c c' s w.drew:=h.keep (Below.refl _ _).drew
theorem LW.set {gB:Nat} {l m:List V} {A B:Option Addr} {c c':Nat} {s:Option Ax} {w:World} (h:LW w0 gB l m A B c c' s w) (t:Option Ax):LW w0 gB l m A B c c' t (wL w gB t):=by
 have e:∀ o v,w.cell? ⟨gB+1,o,none⟩=some v→(wL w gB t).cell? ⟨gB+1,o,none⟩=some v:=fun o v hv=>aW (by omega) (aW (by omega) (aW (by omega) hv))
 have hle:=h.le;exact ⟨h.r.setO t (by omega),h.b.set t,e _ _ h.d0,e _ _ h.d1,e _ _ h.d2,e _ _ h.d3,((h.bel.setCell (p:=⟨gB,0,none⟩) (Nat.le_of_lt hle) _).setCell (p:=⟨gB,1,none⟩) (Nat.le_of_lt hle) _).setCell (p:=⟨gB,2,none⟩) (Nat.le_of_lt hle) _,hle⟩
theorem jU.drew {g:Nat} {s:Option Ax} (h:jU w g s):jU w.drew g s:=⟨h.c0,h.c1,h.c2,h.free⟩
section
variable {w0 w w':World}
variable {l m:List V} {u v:Int}
end







def rD (s:Option Ax):Int:=match s with | none => -1 | some a=>a.2.2
structure BN (w : World) (g : Nat) (s : Bool) (e d : Int) : Prop where
 c0:w.cell? ⟨g,0,none⟩=some (.bool s)
 c1:w.cell? ⟨g,1,none⟩=some (.int .i64 e)
 c2:w.cell? ⟨g,2,none⟩=some (.int .i64 d)
 free:∀ j,w.frozen? ⟨g,j,none⟩=false
theorem BN.keep {g:Nat} {s:Bool} {e d:Int} (hb:Below w.heap.size w w') (h:BN w g s e d):BN w' g s e d :=
 ⟨keepCell hb h.c0,keepCell hb h.c1,keepCell hb h.c2,fun j=>((bX hb).2 _ _ (lt_of_cell h.c0)).trans (h.free j)⟩
theorem BN.here (w:World) (s:Bool) (e d:Int) (t:TypeId):BN (w.alloc (.cells #[.bool s,.int .i64 e,.int .i64 d] t)) w.heap.size s e d:=⟨by go_simp,by go_simp,by go_simp,fun j=>by go_simp⟩
theorem BN.away {g:Nat} {s:Bool} {e d:Int} (h:BN w g s e d) (k o:Nat) (v:Value) (hne:k≠g):BN (w.setCell ⟨k,o,none⟩ v) g s e d :=
 ⟨aW hne h.c0,aW hne h.c1,aW hne h.c2,fun j=>by rw [World.frozen?_setCell];exact h.free j⟩
theorem BN.set {g:Nat} {s:Bool} {e d:Int} (h:BN w g s e d) (s':Bool) (e' d':Int):BN (((w.setCell ⟨g,0,none⟩ (.bool s')).setCell ⟨g,1,none⟩ (.int .i64 e')).setCell ⟨g,2,none⟩ (.int .i64 d')) g s' e' d':=by
 obtain ⟨h0,h1,h2,hf⟩:=h;exact ⟨by go_simp,by go_simp,by go_simp,fun j=>by go_simp⟩
structure RW (w0 : World) (s : Option Ax) (w : World) : Prop where
 r:BN w w0.heap.size false 0 0
 b:BN w (w0.heap.size+1) (IX s) (IW s) (rD s)
 bel:Below w0.heap.size w0 w
 le:w0.heap.size+1<w.heap.size
theorem RW.keep {s:Option Ax} {w w':World} (hb:Below w.heap.size w w') (h:RW w0 s w):RW w0 s w':=⟨h.r.keep hb,h.b.keep hb,ah hb h.bel,Nat.lt_of_lt_of_le h.le hb.size⟩
theorem RW.set {s:Option Ax} {w:World} (h:RW w0 s w) (t:Option Ax):RW w0 t (((w.setCell ⟨w0.heap.size+1,0,none⟩ (.bool (IX t))).setCell ⟨w0.heap.size+1,1,none⟩ (.int .i64 (IW t))).setCell ⟨w0.heap.size+1,2,none⟩ (.int .i64 (rD t))) :=
 ⟨((h.r.away _ _ _ (by omega)).away _ _ _ (by omega)).away _ _ _ (by omega),h.b.set _ _ _,((h.bel.setCell (p:=⟨w0.heap.size+1,0,none⟩) (Nat.le_succ _) _).setCell (p:=⟨w0.heap.size+1,1,none⟩) (Nat.le_succ _) _).setCell (p:=⟨w0.heap.size+1,2,none⟩) (Nat.le_succ _) _,by simpa [World.setCell] using h.le⟩
structure Vm (w : World) (g : Nat) (x y : Int) : Prop where
 a:w.cell? ⟨g,0,none⟩=some (.int .i64 x)
 b:w.cell? ⟨g,1,none⟩=some (.int .i64 y)
 f:∀ j,w.frozen? ⟨g,j,none⟩=false
theorem E5 {g:Nat} {x y:Int} (hb:Below w.heap.size w w') (h:Vm w g x y):Vm w' g x y :=
 ⟨keepCell hb h.a,keepCell hb h.b,fun j=>((bX hb).2 _ _ (lt_of_cell h.a)).trans (h.f j)⟩
theorem Vm.lt {g:Nat} {x y:Int} (h:Vm w g x y):g<w.heap.size:=lt_of_cell h.a
theorem Vm.drew {g:Nat} {x y:Int} (h:Vm w g x y):Vm w.drew g x y:=⟨h.a,h.b,h.f⟩
theorem Vm.vz {g:Nat} {x y:Int} (h:Vm w g x y):VZ w g:=⟨⟨_,_,h.a,h.b⟩,h.f⟩
theorem Vm.here (w:World) (x y:Int) (t:TypeId):Vm (w.alloc (.cells #[.int .i64 x,.int .i64 y] t)) w.heap.size x y:=⟨by go_simp,by go_simp,fun j=>by go_simp⟩
abbrev put2 (w:World) (g:Nat) (x y:Int):World:=(w.setCell ⟨g,0,none⟩ (.int .i64 x)).setCell ⟨g,1,none⟩ (.int .i64 y)
theorem Vm.new {g:Nat} (h:VZ w g) (x y:Int):Vm (put2 w g x y) g x y:=by
 obtain ⟨⟨_,_,z0,z1⟩,zf⟩:=h;have hgl:=lt_of_cell z0;exact ⟨by go_simp,by go_simp,fun j=>by go_simp⟩
theorem Vm.set {g:Nat} {a b:Int} (h:Vm w g a b) (x y:Int):Vm (put2 w g x y) g x y:=Vm.new h.vz x y
theorem Vm.off2 {g k:Nat} {x y:Int} (h:Vm w g x y) (hne:k≠g) (a b:Int):Vm (put2 w k a b) g x y :=
 ⟨nI hne h.a,nI hne h.b,fun j=>by rw [World.frozen?_setCell,World.frozen?_setCell];exact h.f j⟩
theorem VZ.off2 {g k:Nat} (h:VZ w g) (hne:k≠g) (a b:Int):VZ (put2 w k a b) g:=by
 obtain ⟨⟨u,v,z0,z1⟩,zf⟩:=h;exact ⟨⟨u,v,nI hne z0,nI hne z1⟩,fun j=>by rw [World.frozen?_setCell,World.frozen?_setCell];exact zf j⟩
theorem BP {B:Nat} {w w':World} (h:Below B w w') {g:Nat} (hg:B≤g) (x y:Int):Below B w (put2 w' g x y):=(h.setCell (p:=⟨g,0,none⟩) hg _).setCell (p:=⟨g,1,none⟩) hg _


abbrev Pt:=(V × V) × (Int × Int)
def Il:Lay Pt:=⟨fun p=>[.int .i64 p.1.1.1,.int .i64 p.1.1.2,.int .i64 p.1.2.1,.int .i64 p.1.2.2,.int .i64 p.2.1,.int .i64 p.2.2],6,fun _=>rfl,fun x v hv=>by simp at hv;rcases hv with rfl | rfl | rfl | rfl | rfl | rfl <;> rfl,by omega⟩






structure OA (w0 : World) (gX gW : Nat) (s : Bool) (e : Nat) (wx wy : Int) (w : World) : Prop where
 x0:w.cell? ⟨gX,0,none⟩=some (.bool s)
 x1:w.cell? ⟨gX,1,none⟩=some (.int .i64 e)
 m0:w.cell? ⟨gW,0,none⟩=some (.int .i64 wx)
 m1:w.cell? ⟨gW,1,none⟩=some (.int .i64 wy)
 bel:Below w0.heap.size w0 w
theorem OA.keep {gX gW:Nat} {s:Bool} {e:Nat} {wx wy:Int} {w w':World} (hb:Below w.heap.size w w') (h:OA w0 gX gW s e wx wy w):OA w0 gX gW s e wx wy w' :=
 ⟨keepCell hb h.x0,keepCell hb h.x1,keepCell hb h.m0,keepCell hb h.m1,ah hb h.bel⟩
theorem OA.drew {gX gW:Nat} {s:Bool} {e:Nat} {wx wy:Int} {w:World} (h:OA w0 gX gW s e wx wy w):OA w0 gX gW s e wx wy w.drew:=h.keep (Below.refl _ _).drew
structure OB (w0 : World) (gX gW gN : Nat) (s : Bool) (e : Nat) (wx wy n1 n2 : Int) (w : World) : Prop where
 oa:OA w0 gX gW s e wx wy w
 k0:w.cell? ⟨gN,0,none⟩=some (.int .i64 n1)
 k1:w.cell? ⟨gN,1,none⟩=some (.int .i64 n2)
theorem OB.keep {gX gW gN:Nat} {s:Bool} {e:Nat} {wx wy n1 n2:Int} {w w':World} (hb:Below w.heap.size w w') (h:OB w0 gX gW gN s e wx wy n1 n2 w):OB w0 gX gW gN s e wx wy n1 n2 w':=⟨h.oa.keep hb,keepCell hb h.k0,keepCell hb h.k1⟩
theorem OB.drew {gX gW gN:Nat} {s:Bool} {e:Nat} {wx wy n1 n2:Int} {w:World} (h:OB w0 gX gW gN s e wx wy n1 n2 w):OB w0 gX gW gN s e wx wy n1 n2 w.drew:=h.keep (Below.refl _ _).drew
theorem OA.off2 {gX gW:Nat} {s:Bool} {e:Nat} {wx wy:Int} {w:World} (h:OA w0 gX gW s e wx wy w) {k:Nat} (h1:k≠gX) (h2:k≠gW) (h3:w0.heap.size≤k) (x y:Int):OA w0 gX gW s e wx wy (put2 w k x y) :=
 ⟨nI h1 h.x0,nI h1 h.x1,nI h2 h.m0,nI h2 h.m1,BP h.bel h3 x y⟩
theorem OB.off2 {gX gW gN:Nat} {s:Bool} {e:Nat} {wx wy n1 n2:Int} {w:World} (h:OB w0 gX gW gN s e wx wy n1 n2 w) {k:Nat} (h1:k≠gX) (h2:k≠gW) (h4:k≠gN) (h3:w0.heap.size≤k) (x y:Int):OB w0 gX gW gN s e wx wy n1 n2 (put2 w k x y) :=
 ⟨h.oa.off2 h1 h2 h3 x y,nI h4 h.k0,nI h4 h.k1⟩
structure OS (w0 : World) (gX gW gN gR gS : Nat) (s : Bool) (e : Nat) (wx wy n1 n2 r1 r2 s1 s2 : Int) (w : World) : Prop where
 ob:OB w0 gX gW gN s e wx wy n1 n2 w
 a0:w.cell? ⟨gR,0,none⟩=some (.int .i64 r1)
 a1:w.cell? ⟨gR,1,none⟩=some (.int .i64 r2)
 b0:w.cell? ⟨gS,0,none⟩=some (.int .i64 s1)
 b1:w.cell? ⟨gS,1,none⟩=some (.int .i64 s2)
theorem OS.keep {gX gW gN gR gS:Nat} {s:Bool} {e:Nat} {wx wy n1 n2 r1 r2 s1 s2:Int} {w w':World} (hb:Below w.heap.size w w') (h:OS w0 gX gW gN gR gS s e wx wy n1 n2 r1 r2 s1 s2 w):OS w0 gX gW gN gR gS s e wx wy n1 n2 r1 r2 s1 s2 w' :=
 ⟨h.ob.keep hb,keepCell hb h.a0,keepCell hb h.a1,keepCell hb h.b0,keepCell hb h.b1⟩
theorem OS.drew {gX gW gN gR gS:Nat} {s:Bool} {e:Nat} {wx wy n1 n2 r1 r2 s1 s2:Int} {w:World} (h:OS w0 gX gW gN gR gS s e wx wy n1 n2 r1 r2 s1 s2 w):OS w0 gX gW gN gR gS s e wx wy n1 n2 r1 r2 s1 s2 w.drew:=h.keep (Below.refl _ _).drew
theorem OS.off2 {gX gW gN gR gS:Nat} {s:Bool} {e:Nat} {wx wy n1 n2 r1 r2 s1 s2:Int} {w:World} (h:OS w0 gX gW gN gR gS s e wx wy n1 n2 r1 r2 s1 s2 w) {k:Nat} (hk:k≠gX∧k≠gW∧k≠gN∧k≠gR∧k≠gS) (h3:w0.heap.size≤k) (x y:Int):OS w0 gX gW gN gR gS s e wx wy n1 n2 r1 r2 s1 s2 (put2 w k x y) :=
 ⟨h.ob.off2 hk.1 hk.2.1 hk.2.2.1 h3 x y,nI hk.2.2.2.1 h.a0,nI hk.2.2.2.1 h.a1,nI hk.2.2.2.2 h.b0,nI hk.2.2.2.2 h.b1⟩

structure OP (w0 : World) (gX gW gN gR gS : Nat) (s : Bool) (e : Nat) (wx wy n1 n2 r1 r2 s1 s2 : Int) (gP gQ : Nat) (p q : V) (w : World) : Prop where
 os:OS w0 gX gW gN gR gS s e wx wy n1 n2 r1 r2 s1 s2 w
 vp:Vm w gP p.1 p.2
 vq:Vm w gQ q.1 q.2
 ne:gP≠gQ
 ap:gP≠gX∧gP≠gW∧gP≠gN∧gP≠gR∧gP≠gS
 aq:gQ≠gX∧gQ≠gW∧gQ≠gN∧gQ≠gR∧gQ≠gS
 lp:w0.heap.size≤gP
 lq:w0.heap.size≤gQ
section
variable {w0 w w':World}
variable {w0:World} {gX gW gN gR gS:Nat} {s:Bool} {e:Nat} {wx wy n1 n2 r1 r2 s1 s2:Int} {gP gQ:Nat} {p q:V} {w w':World}
theorem OP.keep (hb:Below w.heap.size w w') (h:OP w0 gX gW gN gR gS s e wx wy n1 n2 r1 r2 s1 s2 gP gQ p q w):OP w0 gX gW gN gR gS s e wx wy n1 n2 r1 r2 s1 s2 gP gQ p q w' :=
 ⟨h.os.keep hb,E5 hb h.vp,E5 hb h.vq,h.ne,h.ap,h.aq,h.lp,h.lq⟩
theorem OP.cells (h:OP w0 gX gW gN gR gS s e wx wy n1 n2 r1 r2 s1 s2 gP gQ p q w):w.cell? ⟨gR,0,none⟩=some (.int .i64 r1)∧w.cell? ⟨gR,1,none⟩=some (.int .i64 r2)∧w.cell? ⟨gS,0,none⟩=some (.int .i64 s1)∧w.cell? ⟨gS,1,none⟩=some (.int .i64 s2)∧w.cell? ⟨gP,0,none⟩=some (.int .i64 p.1)∧w.cell? ⟨gP,1,none⟩=some (.int .i64 p.2)∧w.cell? ⟨gQ,0,none⟩=some (.int .i64 q.1)∧w.cell? ⟨gQ,1,none⟩=some (.int .i64 q.2) :=
 ⟨h.os.a0,h.os.a1,h.os.b0,h.os.b1,h.vp.a,h.vp.b,h.vq.a,h.vq.b⟩
end
def iw (b:Bx):Bool:=decide (b.1.1≤b.2.1∧b.1.2≤b.2.2)

def vN (a b:Bx):Bool:=iw a && (iw b && (decide (a.1.1≤b.2.1) && (decide (b.1.1≤a.2.1) && (decide (a.1.2≤b.2.2) && decide (b.1.2≤a.2.2)))))
theorem nN {a b:Bx}:vN a b=true↔(a.1.1≤a.2.1∧a.1.2≤a.2.2)∧(b.1.1≤b.2.1∧b.1.2≤b.2.2)∧a.1.1≤b.2.1∧b.1.1≤a.2.1∧a.1.2≤b.2.2∧b.1.2≤a.2.2:=by
 unfold vN iw;simp only [Bool.and_eq_true,decide_eq_true_iff]
theorem tQ (a b:Bx):vN a b=vN b a:=by
 rw [Bool.eq_iff_iff,nN,nN];omega
def vG (p q:Nat × Nat):Prop:=p.1<q.1∨(p.1=q.1∧p.2<q.2)
instance (p q:Nat × Nat):Decidable (vG p q):=by unfold vG;infer_instance
def rowP (l:List Bx) (i m:Nat):List (Nat × Nat):=((List.range m).filter fun k=>decide (i<k) && vN (aU l i) (aU l k)).map fun k=>(i,k)
def DW (l:List Bx) (m:Nat):List (Nat × Nat):=(List.range m).flatMap fun i=>rowP l i l.length
def ig (l:List Bx):List (Nat × Nat):=DW l l.length
theorem mem_row {l:List Bx} {i m:Nat} {p:Nat × Nat}:p ∈ rowP l i m↔p.1=i∧p.2<m∧i<p.2∧vN (aU l i) (aU l p.2)=true:=by
 unfold rowP;simp only [List.mem_map,List.mem_filter,List.mem_range,Bool.and_eq_true,decide_eq_true_iff]
 constructor
 ·rintro ⟨k, ⟨h1, h2, h3⟩, rfl⟩;exact ⟨rfl,h1,h2,h3⟩
 ·rintro ⟨h1, h2, h3, h4⟩;exact ⟨p.2,⟨h2,h3,h4⟩,by rw [← h1]⟩
theorem lT {l:List Bx} {p:Nat × Nat}:p ∈ ig l↔p.1<p.2∧p.2<l.length∧vN (aU l p.1) (aU l p.2)=true:=by
 unfold ig DW;simp only [List.mem_flatMap,List.mem_range,mem_row]
 constructor
 ·rintro ⟨i, h, rfl, h1, h2, h3⟩;exact ⟨h2,h1,h3⟩
 ·rintro ⟨h1, h2, h3⟩;exact ⟨p.1,by omega,rfl,h2,h1,h3⟩
theorem zW (l:List Bx) (i m:Nat):(rowP l i m).Pairwise vG:=by
 unfold rowP;rw [List.pairwise_map];refine (List.Pairwise.filter _ List.pairwise_lt_range).imp fun h=>?_
 exact .inr ⟨rfl,h⟩
theorem vW (l:List Bx):(ig l).Pairwise vG:=by
 unfold ig DW;rw [List.pairwise_flatMap];refine ⟨fun i _=>zW l i _,List.pairwise_lt_range.imp fun {i j} h=>fun x hx y hy=>?_⟩;have h1:=(mem_row.1 hx).1;have h2:=(mem_row.1 hy).1;exact .inl (by omega)
theorem kF {p:Nat × Nat} (h:vG p p):False:=by unfold vG at h;omega
theorem tF {p q r:Nat × Nat} (h:vG p q) (k:vG q r):vG p r:=by unfold vG at *;omega
theorem Dy {p q:Nat × Nat} (h:vG p q) (k:vG q p):False:=kF (tF h k)
theorem tZ : ∀ {l m : List (Nat × Nat)}, l.Pairwise vG → m.Pairwise vG → (∀ p, p ∈ l ↔ p ∈ m) → l = m
 | [],[],_,_,_=>rfl
 | [],q :: m,_,_,h=>by have:=(h q).2 (List.mem_cons_self ..);cases this
 | p :: l,[],_,_,h=>by have:=(h p).1 (List.mem_cons_self ..);cases this
 | p :: l,q :: m,hl,hm,h=>by
  rw [List.pairwise_cons] at hl hm
  have e:p=q:=by
   rcases List.mem_cons.1 ((h p).1 (List.mem_cons_self ..)) with g | g
   ·exact g
   ·rcases List.mem_cons.1 ((h q).2 (List.mem_cons_self ..)) with k | k
    ·exact k.symm
    ·exact absurd (hm.1 p g) (fun a=>Dy a (hl.1 q k))
  subst e
  have:l=m:=tZ hl.2 hm.2 fun r=>by
   constructor
   ·intro hr
    rcases List.mem_cons.1 ((h r).1 (List.mem_cons_of_mem _ hr)) with g | g
    ·subst g;exact absurd (hl.1 r hr) kF
    ·exact g
   ·intro hr
    rcases List.mem_cons.1 ((h r).2 (List.mem_cons_of_mem _ hr)) with g | g
    ·subst g;exact absurd (hm.1 r hr) kF
    ·exact g
  rw [this]

def iX (l:List Bx) (op:List Nat) (i:Nat):List Nat:=op.filter fun k => !decide ((aU l k).2.1<(aU l i).1.1)
def rP (l:List Bx) (i k:Nat):Bool:=decide ((aU l k).1.2≤(aU l i).2.2) && decide ((aU l i).1.2≤(aU l k).2.2)
def Ap (i k:Nat):Nat × Nat:=(min i k,max i k)
def jo (l:List Bx) (op:List Nat) (i:Nat):List (Nat × Nat):=(op.filter fun k=>rP l i k).map fun k=>Ap i k

def oo (l : List Bx) : List Nat → List Nat × List (Nat × Nat) → List Nat × List (Nat × Nat)
 | [],s=>s
 | i :: o,s=>oo l o (iX l s.1 i ++ [i],s.2 ++ jo l (iX l s.1 i) i)

structure IY (l : List Bx) (pre rest : List Nat) (s : List Nat × List (Nat × Nat)) : Prop where
 a1:s.1.Nodup
 a2:∀ k ∈ s.1,k ∈ pre
 b:∀ k ∈ pre,k ∉ s.1→∀ j ∈ rest,(aU l k).2.1<(aU l j).1.1
 c1:s.2.Nodup
 c2:∀ p,p ∈ s.2↔p.1<p.2∧p.1 ∈ pre∧p.2 ∈ pre∧vN (aU l p.1) (aU l p.2)=true
theorem F9 {i k k':Nat} (h:Ap i k=Ap i k'):k=k':=by
 unfold Ap at h;have h1:=congrArg Prod.fst h;have h2:=congrArg Prod.snd h;dsimp only at h1 h2;omega
theorem FZ {l : List Bx} {pre rest : List Nat} {i : Nat} {s : List Nat × List (Nat × Nat)} (h : IY l pre (i :: rest) s) (hi : i ∉ pre) (hv : ∀ k ∈ pre, iw (aU l k) = true) (hvi : iw (aU l i) = true)
  (hlo:∀ k ∈ pre,(aU l k).1.1≤(aU l i).1.1) (hr:∀ j ∈ rest,(aU l i).1.1≤(aU l j).1.1) :
  IY l (pre ++ [i]) rest (iX l s.1 i ++ [i],s.2 ++ jo l (iX l s.1 i) i):=by
 obtain ⟨a1,a2,b,c1,c2⟩:=h
 have mo:∀ k,k ∈ iX l s.1 i↔k ∈ s.1∧¬ (aU l k).2.1<(aU l i).1.1:=fun k=>by
  unfold iX;rw [List.mem_filter];simp
 have nin:i ∉ iX l s.1 i:=fun g=>hi (a2 i ((mo i).1 g).1)
 have vi:(aU l i).1.1≤(aU l i).2.1∧(aU l i).1.2≤(aU l i).2.2:=by unfold iw at hvi;exact of_decide_eq_true hvi
 -- which boxes before meet box i
 have meets:∀ k ∈ pre,(k ∈ iX l s.1 i∧rP l i k=true)↔vN (aU l k) (aU l i)=true:=fun k hk=>by
  have vk:(aU l k).1.1≤(aU l k).2.1∧(aU l k).1.2≤(aU l k).2.2:=by have:=hv k hk;unfold iw at this;exact of_decide_eq_true this
  have lk:=hlo k hk;rw [nN,mo];unfold rP;simp only [Bool.and_eq_true,decide_eq_true_iff]
  constructor
  ·rintro ⟨⟨h1, h2⟩, h3, h4⟩;omega
  ·rintro ⟨-, -, h1, h2, h3, h4⟩;refine ⟨⟨?_,by omega⟩,h3,h4⟩
   rcases Classical.em (k ∈ s.1) with g | g
   ·exact g
   ·have := b k hk g i (List.mem_cons_self ..);omega
 refine ⟨?_,?_,?_,?_,?_⟩
 ·rw [List.nodup_append];refine ⟨a1.filter _,by simp,fun a ha b hb e=>?_⟩;rw [List.mem_singleton] at hb;subst hb;subst e;exact nin ha
 ·intro k hk;rw [List.mem_append,List.mem_singleton] at hk ⊢
  rcases hk with g | g
  ·exact .inl (a2 k ((mo k).1 g).1)
  ·exact .inr g
 ·intro k hk hno j hj;rw [List.mem_append,List.mem_singleton] at hk;rw [List.mem_append,List.mem_singleton] at hno
  rcases hk with g | g
  ·rcases Classical.em (k ∈ s.1) with q | q
   ·have:(aU l k).2.1<(aU l i).1.1:=by
     rcases Int.lt_or_le (aU l k).2.1 (aU l i).1.1 with r | r
     ·exact r
     ·exact absurd (.inl ((mo k).2 ⟨q,by omega⟩)) hno
    have:=hr j hj;omega
   ·exact b k g q j (List.mem_cons_of_mem _ hj)
  ·exact absurd (.inr g) hno
 ·rw [List.nodup_append];refine ⟨c1,?_,fun p hp q hq e=>?_⟩
  ·unfold jo;refine List.Pairwise.map _ (fun x y hxy e=>hxy (F9 e)) ((a1.filter _).filter _)
  ·subst e;unfold jo at hq;obtain ⟨k,hk,rfl⟩:=List.mem_map.1 hq;obtain ⟨_,h1,h2,_⟩:=(c2 _).1 hp;unfold Ap at h1 h2;dsimp only at h1 h2
   rcases Nat.le_total i k with g | g
   ·rw [Nat.min_eq_left g] at h1;exact hi h1
   ·rw [Nat.max_eq_left g] at h2;exact hi h2
 ·intro p;rw [List.mem_append,c2];simp only [List.mem_append,List.mem_singleton];unfold jo;rw [List.mem_map]
  constructor
  ·rintro (⟨h1, h2, h3, h4⟩ | ⟨k, hk, rfl⟩)
   ·exact ⟨h1,.inl h2,.inl h3,h4⟩
   ·rw [List.mem_filter] at hk;have hkp:=a2 k ((mo k).1 hk.1).1;have ht:=(meets k hkp).1 hk;have hne:i≠k:=fun e=>hi (by rw [e];exact hkp)
    unfold Ap;dsimp only
    rcases Nat.le_total i k with g | g
    ·rw [Nat.min_eq_left g, Nat.max_eq_right g];exact ⟨by omega,.inr rfl,.inl hkp,by rw [tQ];exact ht⟩
    ·rw [Nat.min_eq_right g, Nat.max_eq_left g];exact ⟨by omega,.inl hkp,.inr rfl,ht⟩
  ·rintro ⟨h1, h2, h3, h4⟩
   rcases h2 with h2 | h2
   ·rcases h3 with h3 | h3
    ·exact .inl ⟨h1,h2,h3,h4⟩
    ·right
     rw [h3] at h1 h4;refine ⟨p.1,?_,?_⟩
     ·rw [List.mem_filter];exact (meets _ h2).2 h4
     ·unfold Ap;rw [Nat.min_eq_right (by omega),Nat.max_eq_left (by omega)]
      ext <;> simp [h3]
   ·rcases h3 with h3 | h3
    ·right
     rw [h2] at h1 h4;refine ⟨p.2,?_,?_⟩
     ·rw [List.mem_filter];exact (meets _ h3).2 (by rw [tQ];exact h4)
     ·unfold Ap;rw [Nat.min_eq_left (by omega),Nat.max_eq_right (by omega)]
      ext <;> simp [h2]
    ·omega
theorem FD {l : List Bx} : ∀ (rest pre : List Nat) (s : List Nat × List (Nat × Nat)), IY l pre rest s → (pre ++ rest).Nodup → (∀ k ∈ pre ++ rest, iw (aU l k) = true) → (pre ++ rest).Pairwise (fun a b => (aU l a).1.1 ≤ (aU l b).1.1) →
  IY l (pre ++ rest) [] (oo l rest s)
 | [],pre,s,h,_,_,_=>by rw [List.append_nil];exact h
 | i :: rest,pre,s,h,hn,hv,hp=>by
  have e:pre ++ i :: rest=(pre ++ [i]) ++ rest:=by simp
  rw [oo,e]
  refine FD rest (pre ++ [i]) _ ?_ (by rw [← e];exact hn) (by rw [← e];exact hv) (by rw [← e];exact hp)
  rw [List.nodup_append] at hn
  rw [List.pairwise_append] at hp
  obtain ⟨p1,p2,p3⟩:=hp
  rw [List.pairwise_cons] at p2
  exact FZ h (fun g=>hn.2.2 i g i (List.mem_cons_self ..) rfl) (fun k hk=>hv k (List.mem_append_left _ hk)) (hv i (List.mem_append_right _ (List.mem_cons_self ..))) (fun k hk=>p3 k hk i (List.mem_cons_self ..)) p2.1

def gY (l:List Bx) (m:Nat):List Nat:=(List.range m).filter fun i=>iw (aU l i)
theorem rF {p q:Nat × Nat}:fQ p q<0↔vG p q:=by
 unfold fQ Lib.compareInt vG
 split <;> (repeat' split) <;> omega

theorem BJ {l:List Bx} {o:List Nat} (ho:o.Perm (gY l l.length)) (hs:o.Pairwise (fun a b=>(aU l a).1.1≤(aU l b).1.1)) {r:List (Nat × Nat)} (hr:r.Perm (oo l o ([],[])).2) (hrs:r.Pairwise fun p q=>¬ fQ q p<0):r=ig l:=by
 have hmem:∀ k,k ∈ o↔k<l.length∧iw (aU l k)=true:=fun k=>by
  rw [ho.mem_iff];unfold gY;rw [List.mem_filter,List.mem_range]
 have hnd:o.Nodup:=ho.nodup_iff.2 (List.nodup_range.filter _);have h:=FD (l:=l) o [] ([],[]) ⟨List.nodup_nil,by simp,by simp,List.nodup_nil,by simp⟩ hnd (fun k hk=>((hmem k).1 hk).2) hs;rw [List.nil_append] at h;refine tZ ?_ (vW l) fun p=>?_
 ·have hn : r.Nodup := hr.nodup_iff.2 h.c1;refine (hrs.and hn).imp fun {p q} hh=>?_
  obtain ⟨g1,g2⟩:=hh;rw [rF] at g1;unfold vG at *
  rcases Nat.lt_trichotomy p.1 q.1 with a | a | a
  ·exact .inl a
  ·rcases Nat.lt_trichotomy p.2 q.2 with c | c | c
   ·exact .inr ⟨a,c⟩
   ·exact absurd (by ext <;> assumption) g2
   ·exact absurd (.inr ⟨a.symm,c⟩) g1
  ·exact absurd (.inl a) g1
 ·rw [hr.mem_iff, h.c2, lT, hmem, hmem]
  constructor
  ·rintro ⟨h1, ⟨h2, _⟩, ⟨h3, _⟩, h4⟩;exact ⟨h1,h3,h4⟩
  ·rintro ⟨h1, h2, h3⟩;have:=nN.1 h3;exact ⟨h1,⟨by omega,by unfold iw;exact decide_eq_true this.1⟩,⟨h2,by unfold iw;exact decide_eq_true this.2.1⟩,h3⟩
def IV (x:BE):List V:=dn x.b x.l

def bxB (x:BE):Bx:=((uL (qy (IV x)),uL (rG (IV x))),(vK (qy (IV x)),vK (rG (IV x))))
def AJ (L:List BE) (i:Nat):Int:=match L[i]? with | some x=>x.b.mass | none=>0

def oq (L:List BE) (p:Nat × Nat):Bool:=decide (AJ L p.1=0) && decide (AJ L p.2=0)
def xG (L:List BE):List (Nat × Nat):=(ig (L.map bxB)).filter fun p => !oq L p


theorem wO {L:List BE} {i:Nat} (h:i<L.length):AJ L i=L[i].b.mass:=by unfold AJ;rw [List.getElem?_eq_getElem h]

theorem uG {α β : Type} {f : α → List β} {n : Nat} (h : ∀ a, (f a).length ≤ n) : ∀ l : List α, (l.flatMap f).length ≤ l.length * n
 | []=>by simp
 | a :: l=>by
  rw [List.flatMap_cons,List.length_append,List.length_cons,Nat.add_mul,Nat.one_mul]
  have:=h a
  have:=uG h l
  omega
theorem Cj (l:List Bx):(ig l).length≤l.length*l.length:=by
 have h1:=uG (f:=fun i=>rowP l i l.length) (n:=l.length) (fun i=>by unfold rowP;rw [List.length_map];exact Nat.le_trans (List.length_filter_le _ _) (by simp)) (List.range l.length);rw [List.length_range] at h1;exact h1

end
end Go.Proofs.YtokgmcomgflloaaGreat
