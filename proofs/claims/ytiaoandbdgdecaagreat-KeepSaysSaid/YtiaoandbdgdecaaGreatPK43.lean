/- Parts of a proof: contracts and laws. -/
import Derived.Test.YtiaoandbdgdecaaGreatPK30
import Derived.Test.YtiaoandbdgdecaaGreatPK10
import Derived.Test.YtiaoandbdgdecaaGreatPK17
import Derived.Test.YtiaoandbdgdecaaGreatPK04
set_option maxRecDepth 100000
set_option maxHeartbeats 16000000
namespace Go.Proofs.YtiaoandbdgdecaaGreat
section
set_option linter.unusedVariables false
set_option linter.unusedSimpArgs false
open Go.RowKit

structure Vf (w : World) (g : Nat) : Prop where
 c:(∃ v,w.cell? ⟨g,0,none⟩=some v)∧(∃ v,w.cell? ⟨g,1,none⟩=some v)∧(∃ v,w.cell? ⟨g,2,none⟩=some v)∧∃ v,w.cell? ⟨g,3,none⟩=some v
 f:∀ j,w.frozen? ⟨g,j,none⟩=false
theorem keepVf {w w':World} {g:Nat} (hb:Below w.heap.size w w') (h:Vf w g):Vf w' g:=by
 obtain ⟨⟨⟨v0,h0⟩,⟨v1,h1⟩,⟨v2,h2⟩,⟨v3,h3⟩⟩,hf⟩:=h
 exact ⟨⟨⟨v0,keepCell hb h0⟩,⟨v1,keepCell hb h1⟩,⟨v2,keepCell hb h2⟩,⟨v3,keepCell hb h3⟩⟩,fun j=>((bcell hb).2 _ _ (lt_of_cell h0)).trans (hf j)⟩
abbrev put8 (w:World) (g:Nat) (z:Int):World:=(((((((w.setCell ⟨g,0,none⟩ (.int .u32 (digs z 0))).setCell ⟨g,1,none⟩ (.int .u32 (digs z 1))).setCell ⟨g,2,none⟩ (.int .u32 (digs z 2))).setCell ⟨g,3,none⟩ (.int .u32 (digs z 3))).setCell ⟨g,4,none⟩ (.int .u32 (digs z 4))).setCell ⟨g,5,none⟩ (.int .u32 (digs z 5))).setCell ⟨g,6,none⟩ (.int .u32 (digs z 6))).setCell ⟨g,7,none⟩ (.int .u32 (digs z 7))
theorem below_put8 {B:Nat} {w w':World} (h:Below B w w') {g:Nat} (hg:B≤g) (z:Int):Below B w (put8 w' g z) :=
 (((((((h.setCell (p:=⟨g,0,none⟩) hg _).setCell (p:=⟨g,1,none⟩) hg _).setCell (p:=⟨g,2,none⟩) hg _).setCell (p:=⟨g,3,none⟩) hg _).setCell (p:=⟨g,4,none⟩) hg _).setCell (p:=⟨g,5,none⟩) hg _).setCell (p:=⟨g,6,none⟩) hg _).setCell (p:=⟨g,7,none⟩) hg _

structure RC (w0 : World) (gL gA gY gR : Nat) (x1 y1 x2 y2 x3 y3 dx dy : Int) (w : World) : Prop where
 l0:w.cell? ⟨gL,0,none⟩=some (.int .i64 x1)
 l1:w.cell? ⟨gL,1,none⟩=some (.int .i64 y1)
 l2:w.cell? ⟨gL,2,none⟩=some (.int .i64 x2)
 l3:w.cell? ⟨gL,3,none⟩=some (.int .i64 y2)
 a0:w.cell? ⟨gA,0,none⟩=some (.int .i64 x3)
 a1:w.cell? ⟨gA,1,none⟩=some (.int .i64 y3)
 b0:w.cell? ⟨gY,0,none⟩=some (.int .i64 dx)
 b1:w.cell? ⟨gY,1,none⟩=some (.int .i64 dy)
 z:Vf w gR
 bel:Below w0.heap.size w0 w
section
variable {w0:World} {gL gA gY gR:Nat} {x1 y1 x2 y2 x3 y3 dx dy:Int} {w w':World}
theorem RC.keep (hb:Below w.heap.size w w') (h:RC w0 gL gA gY gR x1 y1 x2 y2 x3 y3 dx dy w):RC w0 gL gA gY gR x1 y1 x2 y2 x3 y3 dx dy w' :=
 ⟨keepCell hb h.l0,keepCell hb h.l1,keepCell hb h.l2,keepCell hb h.l3,keepCell hb h.a0,keepCell hb h.a1,keepCell hb h.b0,keepCell hb h.b1,keepVf hb h.z,keepBelow hb h.bel⟩
theorem RC.drew (h:RC w0 gL gA gY gR x1 y1 x2 y2 x3 y3 dx dy w):RC w0 gL gA gY gR x1 y1 x2 y2 x3 y3 dx dy w.drew:=h.keep (Below.refl _ _).drew
theorem RC.lts (h:RC w0 gL gA gY gR x1 y1 x2 y2 x3 y3 dx dy w):gL<w.heap.size∧gA<w.heap.size∧gY<w.heap.size∧gR<w.heap.size∧w0.heap.size≤w.heap.size :=
 ⟨lt_of_cell h.l0,lt_of_cell h.a0,lt_of_cell h.b0,by obtain ⟨⟨⟨_,h0⟩,_⟩,_⟩:=h.z;exact lt_of_cell h0,h.bel.size⟩
theorem RC.off8 (h:RC w0 gL gA gY gR x1 y1 x2 y2 x3 y3 dx dy w) {k:Nat} (hk:k≠gL∧k≠gA∧k≠gY∧k≠gR) (h3:w0.heap.size≤k) (z:Int):RC w0 gL gA gY gR x1 y1 x2 y2 x3 y3 dx dy (put8 w k z):=by
 refine ⟨far8 hk.1 h.l0,far8 hk.1 h.l1,far8 hk.1 h.l2,far8 hk.1 h.l3,far8 hk.2.1 h.a0,far8 hk.2.1 h.a1,far8 hk.2.2.1 h.b0,far8 hk.2.2.1 h.b1,?_,below_put8 h.bel h3 z⟩
 obtain ⟨⟨⟨v0,h0⟩,⟨v1,h1⟩,⟨v2,h2⟩,⟨v3,h3⟩⟩,hf⟩:=h.z
 exact ⟨⟨⟨v0,far8 hk.2.2.2 h0⟩,⟨v1,far8 hk.2.2.2 h1⟩,⟨v2,far8 hk.2.2.2 h2⟩,⟨v3,far8 hk.2.2.2 h3⟩⟩,fun j=>by simp only [World.frozen?_setCell];exact hf j⟩
theorem RC.off2 (h:RC w0 gL gA gY gR x1 y1 x2 y2 x3 y3 dx dy w) {k o:Nat} (hk:k≠gL∧k≠gA∧k≠gY∧k≠gR) (h3:w0.heap.size≤k) (p q:Value):RC w0 gL gA gY gR x1 y1 x2 y2 x3 y3 dx dy ((w.setCell ⟨k,o,none⟩ p).setCell ⟨k,o+1,none⟩ q):=by
 refine ⟨far1 hk.1 (far1 hk.1 h.l0),far1 hk.1 (far1 hk.1 h.l1),far1 hk.1 (far1 hk.1 h.l2),far1 hk.1 (far1 hk.1 h.l3),far1 hk.2.1 (far1 hk.2.1 h.a0),far1 hk.2.1 (far1 hk.2.1 h.a1),far1 hk.2.2.1 (far1 hk.2.2.1 h.b0),far1 hk.2.2.1 (far1 hk.2.2.1 h.b1),?_,(h.bel.setCell (p:=⟨k,o,none⟩) h3 _).setCell (p:=⟨k,o+1,none⟩) h3 _⟩
 obtain ⟨⟨⟨v0,h0⟩,⟨v1,h1⟩,⟨v2,h2⟩,⟨v3,h3⟩⟩,hf⟩:=h.z
 exact ⟨⟨⟨v0,far1 hk.2.2.2 (far1 hk.2.2.2 h0)⟩,⟨v1,far1 hk.2.2.2 (far1 hk.2.2.2 h1)⟩,⟨v2,far1 hk.2.2.2 (far1 hk.2.2.2 h2)⟩,⟨v3,far1 hk.2.2.2 (far1 hk.2.2.2 h3)⟩⟩,fun j=>by simp only [World.frozen?_setCell];exact hf j⟩
end
section
variable {w0:World} {gL gA gY gR:Nat} {x1 y1 x2 y2 x3 y3 dx dy:Int} {t u:Option Nat} {gT gU:Nat} {w w':World}

def NB8 (w0:World) (gL gA gY gR g:Nat) (w:World):Prop:=Blk8 w g (fun _=>0)∧w0.heap.size≤g∧(g≠gL∧g≠gA∧g≠gY∧g≠gR)
structure K2 (w0 : World) (gL gA gY gR : Nat) (x1 y1 x2 y2 x3 y3 dx dy : Int) (t u : Option Nat) (w : World) : Prop where
 rc:RC w0 gL gA gY gR x1 y1 x2 y2 x3 y3 dx dy w
 pt:∀ g,t=some g→NB8 w0 gL gA gY gR g w
 pu:∀ g,u=some g→NB8 w0 gL gA gY gR g w
 tu:∀ g,t=some g→u≠some g
theorem K2.keep (hb:Below w.heap.size w w') (h:K2 w0 gL gA gY gR x1 y1 x2 y2 x3 y3 dx dy t u w):K2 w0 gL gA gY gR x1 y1 x2 y2 x3 y3 dx dy t u w' :=
 ⟨h.rc.keep hb,fun g hg=>⟨keepBlk hb (h.pt g hg).1,(h.pt g hg).2⟩,fun g hg=>⟨keepBlk hb (h.pu g hg).1,(h.pu g hg).2⟩,h.tu⟩
theorem K2.drew (h:K2 w0 gL gA gY gR x1 y1 x2 y2 x3 y3 dx dy t u w):K2 w0 gL gA gY gR x1 y1 x2 y2 x3 y3 dx dy t u w.drew:=h.keep (Below.refl _ _).drew
theorem NB8.here (h:RC w0 gL gA gY gR x1 y1 x2 y2 x3 y3 dx dy w):NB8 w0 gL gA gY gR w.heap.size (w.alloc (.cells #[.int .u32 0,.int .u32 0,.int .u32 0,.int .u32 0,.int .u32 0,.int .u32 0,.int .u32 0,.int .u32 0] 168)):=by
 obtain ⟨h1,h2,h3,h4,h5⟩:=h.lts
 exact ⟨Blk8.fresh rfl,h5,by omega,by omega,by omega,by omega⟩
theorem NB8.ne (h:NB8 w0 gL gA gY gR gT w):gT≠w.heap.size:=by have:=h.1.lt;omega
theorem K2.alT (h:K2 w0 gL gA gY gR x1 y1 x2 y2 x3 y3 dx dy none u w):K2 w0 gL gA gY gR x1 y1 x2 y2 x3 y3 dx dy (some w.heap.size) u (w.alloc (.cells #[.int .u32 0,.int .u32 0,.int .u32 0,.int .u32 0,.int .u32 0,.int .u32 0,.int .u32 0,.int .u32 0] 168)):=by
 have k:=h.keep ((Below.refl _ _).alloc (Nat.le_refl _) (.cells #[.int .u32 0,.int .u32 0,.int .u32 0,.int .u32 0,.int .u32 0,.int .u32 0,.int .u32 0,.int .u32 0] 168))
 exact ⟨k.rc,fun g hg=>by cases hg;exact NB8.here h.rc,k.pu,fun g hg hu=>by cases hg;exact (h.pu _ hu).ne rfl⟩
theorem K2.alU (h:K2 w0 gL gA gY gR x1 y1 x2 y2 x3 y3 dx dy t none w):K2 w0 gL gA gY gR x1 y1 x2 y2 x3 y3 dx dy t (some w.heap.size) (w.alloc (.cells #[.int .u32 0,.int .u32 0,.int .u32 0,.int .u32 0,.int .u32 0,.int .u32 0,.int .u32 0,.int .u32 0] 168)):=by
 have k:=h.keep ((Below.refl _ _).alloc (Nat.le_refl _) (.cells #[.int .u32 0,.int .u32 0,.int .u32 0,.int .u32 0,.int .u32 0,.int .u32 0,.int .u32 0,.int .u32 0] 168))
 exact ⟨k.rc,k.pt,fun g hg=>by cases hg;exact NB8.here h.rc,fun g hg hu=>by cases hu;exact (h.pt _ hg).ne rfl⟩
structure K2a (w0 : World) (gL gA gY gR : Nat) (x1 y1 x2 y2 x3 y3 dx dy : Int) (gT gU : Nat) (a : Int) (w : World) : Prop where
 rc:RC w0 gL gA gY gR x1 y1 x2 y2 x3 y3 dx dy w
 t:Blk8 w gT (digs a)
 u:Blk8 w gU (fun _=>0)
 ap:gU≠gL∧gU≠gA∧gU≠gY∧gU≠gR
 l:w0.heap.size≤gU
 ne:gU≠gT
theorem K2.stT (h:K2 w0 gL gA gY gR x1 y1 x2 y2 x3 y3 dx dy (some gT) (some gU) w) (a:Int):K2a w0 gL gA gY gR x1 y1 x2 y2 x3 y3 dx dy gT gU a (put8 w gT a):=by
 obtain ⟨t1,t2,t3⟩:=h.pt _ rfl
 obtain ⟨u1,u2,u3⟩:=h.pu _ rfl
 have hne:gT≠gU:=fun e=>h.tu _ rfl (by rw [e])
 exact ⟨h.rc.off8 t3 t2 _,t1.sets8,u1.far8 hne,u3,u2,fun e=>hne e.symm⟩
theorem K2a.stU {a:Int} (h:K2a w0 gL gA gY gR x1 y1 x2 y2 x3 y3 dx dy gT gU a w) (b:Int):RC w0 gL gA gY gR x1 y1 x2 y2 x3 y3 dx dy (put8 w gU b)∧Blk8 (put8 w gU b) gT (digs a)∧Blk8 (put8 w gU b) gU (digs b) :=
 ⟨h.rc.off8 h.ap h.l _,h.t.far8 h.ne,h.u.sets8⟩
end

structure V4 (w : World) (g : Nat) (a b c d : Int) : Prop where
 a0:w.cell? ⟨g,0,none⟩=some (.int .i64 a)
 a1:w.cell? ⟨g,1,none⟩=some (.int .i64 b)
 a2:w.cell? ⟨g,2,none⟩=some (.int .i64 c)
 a3:w.cell? ⟨g,3,none⟩=some (.int .i64 d)
 f:∀ j,w.frozen? ⟨g,j,none⟩=false
theorem keepV4 {w w':World} {g:Nat} {a b c d:Int} (hb:Below w.heap.size w w') (h:V4 w g a b c d):V4 w' g a b c d :=
 ⟨keepCell hb h.a0,keepCell hb h.a1,keepCell hb h.a2,keepCell hb h.a3,fun j=>((bcell hb).2 _ _ (lt_of_cell h.a0)).trans (h.f j)⟩
def putO0 (w:World) (g:Nat) (x y:Int):World:=(w.setCell ⟨g,0,none⟩ (.int .i64 x)).setCell ⟨g,1,none⟩ (.int .i64 y)
def putO1 (w:World) (g:Nat) (x y:Int):World:=(w.setCell ⟨g,2,none⟩ (.int .i64 x)).setCell ⟨g,3,none⟩ (.int .i64 y)
theorem V4.set0 {w:World} {g:Nat} {a b c d:Int} (h:V4 w g a b c d) (x y:Int):V4 (putO0 w g x y) g x y c d:=by
 obtain ⟨h0,h1,h2,h3,hf⟩:=h
 have hgl:=lt_of_cell h0
 unfold putO0
 exact ⟨by go_simp,by go_simp,by go_simp,by go_simp,fun j=>by go_simp⟩
theorem V4.set1 {w:World} {g:Nat} {a b c d:Int} (h:V4 w g a b c d) (x y:Int):V4 (putO1 w g x y) g a b x y:=by
 obtain ⟨h0,h1,h2,h3,hf⟩:=h
 have hgl:=lt_of_cell h0
 unfold putO1
 exact ⟨by go_simp,by go_simp,by go_simp,by go_simp,fun j=>by go_simp⟩

structure Blk16 (w : World) (g : Nat) (o p : Nat → Int) : Prop where
 c0:∀ j,j<8→w.cell? ⟨g,j,none⟩=some (.int .u32 (o j))
 c1:∀ j,j<8→w.cell? ⟨g,8+j,none⟩=some (.int .u32 (p j))
theorem Blk16.keep {w w':World} {g:Nat} {o p:Nat→Int} (hb:Below w.heap.size w w') (h:Blk16 w g o p):Blk16 w' g o p:=⟨fun j hj=>keepCell hb (h.c0 j hj),fun j hj=>keepCell hb (h.c1 j hj)⟩
theorem Blk16.at0 {w:World} {g:Nat} {o p:Nat→Int} (h:Blk16 w g o p):w.cell? ⟨g,0,none⟩=some (.int .u32 (o 0))∧w.cell? ⟨g,1,none⟩=some (.int .u32 (o 1))∧w.cell? ⟨g,2,none⟩=some (.int .u32 (o 2))∧w.cell? ⟨g,3,none⟩=some (.int .u32 (o 3))∧w.cell? ⟨g,4,none⟩=some (.int .u32 (o 4))∧w.cell? ⟨g,5,none⟩=some (.int .u32 (o 5))∧w.cell? ⟨g,6,none⟩=some (.int .u32 (o 6))∧w.cell? ⟨g,7,none⟩=some (.int .u32 (o 7)) :=
 ⟨h.c0 0 (by omega),h.c0 1 (by omega),h.c0 2 (by omega),h.c0 3 (by omega),h.c0 4 (by omega),h.c0 5 (by omega),h.c0 6 (by omega),h.c0 7 (by omega)⟩
theorem Blk16.at1 {w:World} {g:Nat} {o p:Nat→Int} (h:Blk16 w g o p):w.cell? ⟨g,8,none⟩=some (.int .u32 (p 0))∧w.cell? ⟨g,9,none⟩=some (.int .u32 (p 1))∧w.cell? ⟨g,10,none⟩=some (.int .u32 (p 2))∧w.cell? ⟨g,11,none⟩=some (.int .u32 (p 3))∧w.cell? ⟨g,12,none⟩=some (.int .u32 (p 4))∧w.cell? ⟨g,13,none⟩=some (.int .u32 (p 5))∧w.cell? ⟨g,14,none⟩=some (.int .u32 (p 6))∧w.cell? ⟨g,15,none⟩=some (.int .u32 (p 7)) :=
 ⟨h.c1 0 (by omega),h.c1 1 (by omega),h.c1 2 (by omega),h.c1 3 (by omega),h.c1 4 (by omega),h.c1 5 (by omega),h.c1 6 (by omega),h.c1 7 (by omega)⟩

structure RL (w0 : World) (gL gA gY gR : Nat) (x1 y1 x2 y2 x3 y3 dx dy : Int) (gD gE gV gO : Nat) (a b o1 o2 o3 o4 : Int) (w : World) : Prop where
 rc:RC w0 gL gA gY gR x1 y1 x2 y2 x3 y3 dx dy w
 bd:Blk8 w gD (digs a)
 be:Blk8 w gE (digs b)
 ar:Blk16 w gV (digs a) (digs b)
 o:V4 w gO o1 o2 o3 o4
 nO:gO≠gL∧gO≠gA∧gO≠gY∧gO≠gR
 nD:gO≠gD
 nE:gO≠gE
 nV:gO≠gV
 lO:w0.heap.size≤gO
 rR:w0.heap.size≤gR
section
variable {w0:World} {gL gA gY gR:Nat} {x1 y1 x2 y2 x3 y3 dx dy:Int} {gD gE gV gO:Nat} {a b o1 o2 o3 o4:Int} {w w':World}
theorem RL.keep (hb:Below w.heap.size w w') (h:RL w0 gL gA gY gR x1 y1 x2 y2 x3 y3 dx dy gD gE gV gO a b o1 o2 o3 o4 w):RL w0 gL gA gY gR x1 y1 x2 y2 x3 y3 dx dy gD gE gV gO a b o1 o2 o3 o4 w' :=
 ⟨h.rc.keep hb,keepBlk hb h.bd,keepBlk hb h.be,h.ar.keep hb,keepV4 hb h.o,h.nO,h.nD,h.nE,h.nV,h.lO,h.rR⟩
theorem RL.loads (h : RL w0 gL gA gY gR x1 y1 x2 y2 x3 y3 dx dy gD gE gV gO a b o1 o2 o3 o4 w) : w.cell? ⟨gL, 0, none⟩ = some (.int .i64 x1) ∧ w.cell? ⟨gL, 1, none⟩ = some (.int .i64 y1) ∧ w.cell? ⟨gL, 2, none⟩ = some (.int .i64 x2) ∧ w.cell? ⟨gL, 3, none⟩ = some (.int .i64 y2) ∧
  w.cell? ⟨gD,0,none⟩=some (.int .u32 (digs a 0))∧w.cell? ⟨gD,1,none⟩=some (.int .u32 (digs a 1))∧w.cell? ⟨gD,2,none⟩=some (.int .u32 (digs a 2))∧w.cell? ⟨gD,3,none⟩=some (.int .u32 (digs a 3))∧w.cell? ⟨gD,4,none⟩=some (.int .u32 (digs a 4))∧w.cell? ⟨gD,5,none⟩=some (.int .u32 (digs a 5))∧w.cell? ⟨gD,6,none⟩=some (.int .u32 (digs a 6))∧w.cell? ⟨gD,7,none⟩=some (.int .u32 (digs a 7)) :=
 ⟨h.rc.l0,h.rc.l1,h.rc.l2,h.rc.l3,h.bd.all⟩
theorem RL.set0 (h:RL w0 gL gA gY gR x1 y1 x2 y2 x3 y3 dx dy gD gE gV gO a b o1 o2 o3 o4 w) (x y:Int):RL w0 gL gA gY gR x1 y1 x2 y2 x3 y3 dx dy gD gE gV gO a b x y o3 o4 (putO0 w gO x y) :=
 ⟨h.rc.off2 h.nO h.lO _ _,(h.bd.far (p:=⟨gO,0,none⟩) h.nD _).far (p:=⟨gO,1,none⟩) h.nD _,(h.be.far (p:=⟨gO,0,none⟩) h.nE _).far (p:=⟨gO,1,none⟩) h.nE _,⟨fun j hj=>far1 h.nV (far1 h.nV (h.ar.c0 j hj)),fun j hj=>far1 h.nV (far1 h.nV (h.ar.c1 j hj))⟩,h.o.set0 x y,h.nO,h.nD,h.nE,h.nV,h.lO,h.rR⟩
theorem RL.set1 (h:RL w0 gL gA gY gR x1 y1 x2 y2 x3 y3 dx dy gD gE gV gO a b o1 o2 o3 o4 w) (x y:Int):RL w0 gL gA gY gR x1 y1 x2 y2 x3 y3 dx dy gD gE gV gO a b o1 o2 x y (putO1 w gO x y) :=
 ⟨h.rc.off2 (o:=2) h.nO h.lO _ _,(h.bd.far (p:=⟨gO,2,none⟩) h.nD _).far (p:=⟨gO,3,none⟩) h.nD _,(h.be.far (p:=⟨gO,2,none⟩) h.nE _).far (p:=⟨gO,3,none⟩) h.nE _,⟨fun j hj=>far1 h.nV (far1 h.nV (h.ar.c0 j hj)),fun j hj=>far1 h.nV (far1 h.nV (h.ar.c1 j hj))⟩,h.o.set1 x y,h.nO,h.nD,h.nE,h.nV,h.lO,h.rR⟩
end
theorem run_lo (x y:Int) (w:World):(Instr.field 116 (.agg #[.int .i64 x,.int .u64 y]) 1).run Tryz.prog w = .ok (.int .u64 y) w:=by
 simp [Instr.field,run_underlying Tryz.underlying116,asAgg,go_sem,sizeOf,typeInfo,Tryz.sizeOf114,Tryz.isAgg114]
def clpW (r:(V × V) × Bool):Value:=.tuple #[.agg #[.int .i64 r.1.1.1,.int .i64 r.1.1.2,.int .i64 r.1.2.1,.int .i64 r.1.2.2],.bool r.2]
theorem rclip_calls (x1 y1 x2 y2 x3 y3 dx dy:Int) (hp:withinB 65536000 x1 y1=true) (hq:withinB 65536000 x2 y2=true) (ha:withinB 65536000 x3 y3=true) (hd:withinB 131072000 dx dy=true) (w:World) :
  Calls Tryz.prog 100 #[.agg #[.int .i64 x1,.int .i64 y1,.int .i64 x2,.int .i64 y2],vecV x3 y3,vecV dx dy] w (Ret (clpW (clpZ (x1,y1) (x2,y2) (x3,y3) (dx,dy))) w):=by
 have bA:=clpA_bd (p:=(x1,y1)) (at_:=(x3,y3)) (way:=(dx,dy)) hp ha hd
 have bB:=clpA_bd (p:=(x2,y2)) (at_:=(x3,y3)) (way:=(dx,dy)) hq ha hd
 obtain ⟨_,_,_,_⟩:=withinB_iff.1 hp
 obtain ⟨_,_,_,_⟩:=withinB_iff.1 hq
 obtain ⟨_,_,_,_⟩:=withinB_iff.1 ha
 obtain ⟨_,_,_,_⟩:=withinB_iff.1 hd
 have u1:wrap64 (x1-x3)=x1-x3:=wrap64_id (by omega) (by omega)
 have u2:wrap64 (y1-y3)=y1-y3:=wrap64_id (by omega) (by omega)
 have u3:wrap64 (x2-x3)=x2-x3:=wrap64_id (by omega) (by omega)
 have u4:wrap64 (y2-y3)=y2-y3:=wrap64_id (by omega) (by omega)
 have HS1:=hid (sub_calls x1 y1 x3 y3)
 have HS2:=hid (sub_calls x2 y2 x3 y3)
 rw [u1,u2] at HS1
 rw [u3,u4] at HS2
 have HD1:=hid (rdot_calls (x1-x3) (y1-y3) dx dy (by omega) (by omega) (by omega) (by omega))
 have HD2:=hid (rdot_calls (x2-x3) (y2-y3) dx dy (by omega) (by omega) (by omega) (by omega))
 have HR:Hid (∀ a b,a=clpA (x1,y1) (x3,y3) (dx,dy)→b=clpA (x2,y2) (x3,y3) (dx,dy)→clpZ (x1,y1) (x2,y2) (x3,y3) (dx,dy)=clpAB (x1,y1) (x2,y2) a b):=fun a b e1 e2=>by rw [e1,e2];rfl
 change -36028797018963968≤(x1-x3)*dx+(y1-y3)*dy∧(x1-x3)*dx+(y1-y3)*dy≤36028797018963968 at bA
 change -36028797018963968≤(x2-x3)*dx+(y2-y3)*dy∧(x2-x3)*dx+(y2-y3)*dy≤36028797018963968 at bB
 obtain ⟨a,hae⟩:∃ a,a=(x1-x3)*dx+(y1-y3)*dy:=⟨_,rfl⟩
 obtain ⟨b,hbe⟩:∃ b,b=(x2-x3)*dx+(y2-y3)*dy:=⟨_,rfl⟩
 have HC:=hid (HR.out a b hae hbe)
 rw [← hae] at HD1 bA
 rw [← hbe] at HD2 bB
 obtain ⟨R,hR⟩:∃ R,R=clpZ (x1,y1) (x2,y2) (x3,y3) (dx,dy):=⟨_,rfl⟩
 rw [← hR] at HC ⊢
 have HBa:=hid (fun w=>below_calls a w (by omega) (by omega))
 have HBb:=hid (fun w=>below_calls b w (by omega) (by omega))
 obtain ⟨av,hav⟩:∃ v,v=decide (a<0):=⟨_,rfl⟩
 obtain ⟨bv,hbv⟩:∃ v,v=decide (b<0):=⟨_,rfl⟩
 rw [← hav] at HBa
 rw [← hbv] at HBb
 have HAV:=hid hav
 have HBV:=hid hbv
 clear hav hbv
 have v1:IntKind.i64.wrap (x2-x1)=x2-x1:=IntWalk.i64_in _ (by omega)
 have v2:IntKind.i64.wrap (y2-y1)=y2-y1:=IntWalk.i64_in _ (by omega)
 have hcv:IntKind.i64.wrap (loW (a-b))=a-b:=by unfold loW;rw [IntKind.wrap_i64];omega
 have m1:=mul_bd (x:=x2-x1) (y:=a) (M:=131072000) (N:=36028797018963968) (by omega) (by omega) (by omega) (by omega)
 have m2:=mul_bd (x:=y2-y1) (y:=a) (M:=131072000) (N:=36028797018963968) (by omega) (by omega) (by omega) (by omega)
 have HFx0:=hid (of_calls (x2-x1) (by omega) (by omega))
 have HFy0:=hid (of_calls (y2-y1) (by omega) (by omega))
 have HXx0:=hid (mul_calls (x2-x1) a)
 have HXy0:=hid (mul_calls (y2-y1) a)
 have HVx0:=hid (bover_calls ((x2-x1)*a) (a-b) (by omega) (by omega) (by omega) (by omega))
 have HVy0:=hid (bover_calls ((y2-y1)*a) (a-b) (by omega) (by omega) (by omega) (by omega))
 change Hid (∀ w,Calls _ _ _ w (Ret (.tuple #[.int .i64 (betQ (x2-x1) a b),_]) w)) at HVx0
 change Hid (∀ w,Calls _ _ _ w (Ret (.tuple #[.int .i64 (betQ (y2-y1) a b),_]) w)) at HVy0
 have HQ:Hid (((a<0∧0≤b)∨(0≤a∧b<0))→IntKind.i64.wrap (x1+betQ (x2-x1) a b)=x1+betQ (x2-x1) a b∧IntKind.i64.wrap (y1+betQ (y2-y1) a b)=y1+betQ (y2-y1) a b):=fun hs=>by
  have k1:=betQ_bd (D:=x2-x1) hs (by omega)
  have k2:=betQ_bd (D:=y2-y1) hs (by omega)
  exact ⟨IntWalk.i64_in _ (by omega),IntWalk.i64_in _ (by omega)⟩
 have HAB:Hid (clpAB (x1,y1) (x2,y2) a b=if a<0∧b<0 then (((x1,y1),(x2,y2)),false) else if a<0 then (((x1+betQ (x2-x1) a b,y1+betQ (y2-y1) a b),(x2,y2)),true) else if b<0 then (((x1,y1),(x1+betQ (x2-x1) a b,y1+betQ (y2-y1) a b)),true) else (((x1,y1),(x2,y2)),true)):=rfl
 generalize betQ (x2-x1) a b=E1 at *
 generalize betQ (y2-y1) a b=E2 at *
 generalize overE ((x2-x1)*a) (a-b)=N1 at *
 generalize overE ((y2-y1)*a) (a-b)=N2 at *
 clear hae hbe HR hR hp hq ha hd u1 u2 u3 u4 m1 m2
 obtain ⟨W,hW⟩:∃ W,W=(((w.alloc (.cells #[.int .i64 x1,.int .i64 y1,.int .i64 x2,.int .i64 y2] 141)).alloc (.cells #[.int .i64 x3,.int .i64 y3] 27)).alloc (.cells #[.int .i64 dx,.int .i64 dy] 27)).alloc (.cells #[.int .i64 0,.int .i64 0,.int .i64 0,.int .i64 0] 141):=⟨_,rfl⟩
 obtain ⟨gR,eR⟩:∃ g,g=w.heap.size+1+1+1:=⟨_,rfl⟩
 obtain ⟨gY,eY⟩:∃ g,g=w.heap.size+1+1:=⟨_,rfl⟩
 obtain ⟨gA,eA⟩:∃ g,g=w.heap.size+1:=⟨_,rfl⟩
 obtain ⟨gL,eL⟩:∃ g,g=w.heap.size:=⟨_,rfl⟩
 have hRC:RC w gL gA gY gR x1 y1 x2 y2 x3 y3 dx dy W:=by
  rw [hW,eR,eY,eA,eL]
  exact ⟨by go_simp,by go_simp,by go_simp,by go_simp,by go_simp,by go_simp,by go_simp,by go_simp,⟨⟨⟨.int .i64 0,by go_simp⟩,⟨.int .i64 0,by go_simp⟩,⟨.int .i64 0,by go_simp⟩,⟨.int .i64 0,by go_simp⟩⟩,fun j=>by go_simp⟩,by go_grown⟩
 have hwR:w.heap.size≤gR:=by omega
 go_enter Tryz.func100,Tryz.ntmps100
 go_upto_region 1 with fail
 rw [← hW,← eR,← eY,← eA]
 simp only [← eL]
 clear hW eR eY eA eL
 obtain ⟨wo,rfl⟩:∃ wo:World,wo=W:=⟨_,rfl⟩
 have hA:K2 w gL gA gY gR x1 y1 x2 y2 x3 y3 dx dy none none wo:=⟨hRC,(fun g h=>by cases h),(fun g h=>by cases h),(fun g h=>by cases h)⟩
 go_cut [8,9] from 18 to 29 (fun t u wx=>∃ gD gE,t = .pointer (some ⟨gD,0,none⟩)∧u = .pointer (some ⟨gE,0,none⟩)∧RC w gL gA gY gR x1 y1 x2 y2 x3 y3 dx dy wx∧Blk8 wx gD (digs a)∧Blk8 wx gE (digs b))
 case first =>
  clear HBa HBb HFx0 HFy0 HXx0 HXy0 HVx0 HVy0 HQ HC HAB v1 v2 hcv bA bB
  (have KKr1:Hid (∀ w1 w2:World,Below w1.heap.size w1 w2→(RC w gL gA gY gR x1 y1 x2 y2 x3 y3 dx dy w1)→RC w gL gA gY gR x1 y1 x2 y2 x3 y3 dx dy w2):=fun w1 w2 hb h=>RC.keep hb (h));(refine (fun (hNr1:Hid (?Tr1:Prop))=>?mainr1) (hid ?prfr1))
  case mainr1 =>
   (refine wp_region_noPanic ?_);(refine wp_region_U (S:=(S2 (fun w'=>RC w gL gA gY gR x1 y1 x2 y2 x3 y3 dx dy w'))) (T:=(fun j=>[0,0,0,0,0,0,0,0,0,0,0,0,0,0,1].getD j 0)) (by kernel_rfl) (S2i0 hRC.drew) (fun hH=>?_));(have hWr1:Weaker (S2 (fun w'=>RC w gL gA gY gR x1 y1 x2 y2 x3 y3 dx dy w')):=weaker2 _);(refine Utn [(0,18),(1,19),(2,20),(4,22),(6,24),(7,25),(8,26),(10,28)] 8 0 0 (L':=?Lr1_1) hWr1 hH ?yr1_1 ?_);(case yr1_1=>((iterate 8 apply tkC;rfl;kernel_rfl;intro w' hSw;replace hSw:=S2o0 hSw;(try dsimp only at hSw);have q0:=hSw;obtain ⟨qa0_0,qa0_1,qa0_2,qa0_3,qa0_4,qa0_5,qa0_6,qa0_7,-,-⟩:=q0;(try simp only [sB,sC]);go_simp;(try with_reducible rfl));exact tkN));(simp only [sB,sC]);(refine Ur [3,12,13] ?_);(refine Uc 0 rfl (fun K hK=>?_) ?_)
   ·(try clear hb); (go_simp); ((go_at_call 101; refine (HS1.out _).mono ?_; rintro e wn ⟨rfl, hb⟩)); (refine hK.out _ _ (S2i0 (KKr1.out _ _ hb (S2o0 hH))) ?_); (clear hK K hH); (intro hH); (try simp only [Act.put, sA, sB, sC]); (replace hA := hA.drew.keep hb); (refine Ur [5, 12, 13] ?_); (refine Uc 0 rfl (fun K hK => ?_) ?_)
    ·(try clear hb); (go_simp); ((go_at_call 140; refine (HD1.out _).mono ?_; rintro e wn ⟨rfl, hb⟩)); (refine hK.out _ _ (S2i0 (KKr1.out _ _ hb (S2o0 hH))) ?_); (clear hK K hH); (intro hH); (try simp only [Act.put, sA, sB, sC]); (replace hA := hA.keep hb); (refine Ur [9, 12, 13] ?_); (refine Uc 0 rfl (fun K hK => ?_) ?_)
     ·(try clear hb); (go_simp); ((go_at_call 101; refine (HS2.out _).mono ?_; rintro e wn ⟨rfl, hb⟩)); (refine hK.out _ _ (S2i0 (KKr1.out _ _ hb (S2o0 hH))) ?_); (clear hK K hH); (intro hH); (try simp only [Act.put, sA, sB, sC]); (replace hA := hA.keep hb); (refine Ur [11, 12, 13] ?_); (refine Uc 0 rfl (fun K hK => ?_) ?_)
      ·(try clear hb); (go_simp); ((go_at_call 140; refine (HD2.out _).mono ?_; rintro e wn ⟨rfl, hb⟩)); (refine hK.out _ _ (S2i0 (KKr1.out _ _ hb (S2o0 hH))) ?_); (clear hK K hH); (intro hH); (try simp only [Act.put, sA, sB, sC]); (replace hA := hA.keep hb); (refine Ur [12, 13] ?_); (refine Uc 0 rfl (fun K hK => ?_) ?_)
       ·(try clear hb);(go_simp);(refine hK.out _ _ (S2i0 (KKr1.out _ _ Ba (S2o0 hH))) ?_);(clear hK K hH);(intro hH);(try simp only [Act.put,sA,sB,sC]);(replace hA:=(hA.alT));(obtain ⟨gT,hg⟩:∃ g,g=wn.heap.size:=⟨_,rfl⟩);(rw [← hg] at hA);(try rw [← hg]);(clear hg);(generalize wn.alloc (.cells #[.int .u32 0,.int .u32 0,.int .u32 0,.int .u32 0,.int .u32 0,.int .u32 0,.int .u32 0,.int .u32 0] 168)=wx12 at *);(refine U1 13 0 rfl (fun K hK=>?_));(try clear hb);(go_simp);(refine hK.out _ _ (S2i0 (KKr1.out _ _ Ba (S2o0 hH))) ?_);(clear hK K hH);(intro hH);(try simp only [Act.put,sA,sB,sC]);(replace hA:=(hA.alU));(obtain ⟨gU,hg⟩:∃ g,g=wx12.heap.size:=⟨_,rfl⟩);(rw [← hg] at hA);(try rw [← hg]);(clear hg);(generalize wx12.alloc (.cells #[.int .u32 0,.int .u32 0,.int .u32 0,.int .u32 0,.int .u32 0,.int .u32 0,.int .u32 0,.int .u32 0] 168)=wx13 at *);(refine wpAnyU_lst (l':=tf 16 16383) (by kernel_rfl) ?_);(try clear hb);(revert hH);(revert hA);(revert gU);(revert gT);(revert wx13);(exact hNr1.out)
       refine Uc 0 rfl (fun K hK=>?_) ?_
       ·(try clear hb);(go_simp);(refine hK.out _ _ (S2i0 (KKr1.out _ _ Ba (S2o0 hH))) ?_);(clear hK K hH);(intro hH);(try simp only [Act.put,sA,sB,sC]);(replace hA:=(hA.alU));(obtain ⟨gU,hg⟩:∃ g,g=wn.heap.size:=⟨_,rfl⟩);(rw [← hg] at hA);(try rw [← hg]);(clear hg);(generalize wn.alloc (.cells #[.int .u32 0,.int .u32 0,.int .u32 0,.int .u32 0,.int .u32 0,.int .u32 0,.int .u32 0,.int .u32 0] 168)=wx13 at *);(refine U1 12 0 rfl (fun K hK=>?_));(try clear hb);(go_simp);(refine hK.out _ _ (S2i0 (KKr1.out _ _ Ba (S2o0 hH))) ?_);(clear hK K hH);(intro hH);(try simp only [Act.put,sA,sB,sC]);(replace hA:=(hA.alT));(obtain ⟨gT,hg⟩:∃ g,g=wx13.heap.size:=⟨_,rfl⟩);(rw [← hg] at hA);(try rw [← hg]);(clear hg);(generalize wx13.alloc (.cells #[.int .u32 0,.int .u32 0,.int .u32 0,.int .u32 0,.int .u32 0,.int .u32 0,.int .u32 0,.int .u32 0] 168)=wx12 at *);(refine wpAnyU_lst (l':=tf 16 16383) (by kernel_rfl) ?_);(try clear hb);(revert hH);(revert hA);(revert gU);(revert gT);(revert wx12);(exact hNr1.out)
       exact AllReadyU.nil
      refine Uc 0 rfl (fun K hK=>?_) ?_
      ·(try clear hb); (go_simp); (refine hK.out _ _ (S2i0 (KKr1.out _ _ Ba (S2o0 hH))) ?_); (clear hK K hH); (intro hH); (try simp only [Act.put, sA, sB, sC]); (replace hA := (hA.alT)); (obtain ⟨gT, hg⟩ : ∃ g, g = wn.heap.size := ⟨_, rfl⟩); (rw [← hg] at hA); (try rw [← hg]); (clear hg); (generalize wn.alloc (.cells #[.int .u32 0, .int .u32 0, .int .u32 0, .int .u32 0, .int .u32 0, .int .u32 0, .int .u32 0, .int .u32 0] 168) = wx12 at *); (refine Ur [11, 13] ?_); (refine Uc 0 rfl (fun K hK => ?_) ?_)
       ·(try clear hb);(go_simp);((go_at_call 140;refine (HD2.out _).mono ?_;rintro e wn ⟨rfl,hb⟩));(refine hK.out _ _ (S2i0 (KKr1.out _ _ hb (S2o0 hH))) ?_);(clear hK K hH);(intro hH);(try simp only [Act.put,sA,sB,sC]);(replace hA:=hA.keep hb);(refine U1 13 0 rfl (fun K hK=>?_));(try clear hb);(go_simp);(refine hK.out _ _ (S2i0 (KKr1.out _ _ Ba (S2o0 hH))) ?_);(clear hK K hH);(intro hH);(try simp only [Act.put,sA,sB,sC]);(replace hA:=(hA.alU));(obtain ⟨gU,hg⟩:∃ g,g=wn.heap.size:=⟨_,rfl⟩);(rw [← hg] at hA);(try rw [← hg]);(clear hg);(generalize wn.alloc (.cells #[.int .u32 0,.int .u32 0,.int .u32 0,.int .u32 0,.int .u32 0,.int .u32 0,.int .u32 0,.int .u32 0] 168)=wx13 at *);(refine wpAnyU_lst (l':=tf 16 16383) (by kernel_rfl) ?_);(try clear hb);(revert hH);(revert hA);(revert gU);(revert gT);(revert wx13);(exact hNr1.out)
       refine Uc 0 rfl (fun K hK=>?_) ?_
       ·(try clear hb);(go_simp);(refine hK.out _ _ (S2i0 (KKr1.out _ _ Ba (S2o0 hH))) ?_);(clear hK K hH);(intro hH);(try simp only [Act.put,sA,sB,sC]);(replace hA:=(hA.alU));(obtain ⟨gU,hg⟩:∃ g,g=wx12.heap.size:=⟨_,rfl⟩);(rw [← hg] at hA);(try rw [← hg]);(clear hg);(generalize wx12.alloc (.cells #[.int .u32 0,.int .u32 0,.int .u32 0,.int .u32 0,.int .u32 0,.int .u32 0,.int .u32 0,.int .u32 0] 168)=wx13 at *);(refine U1 11 0 rfl (fun K hK=>?_));(try clear hb);(go_simp);((go_at_call 140;refine (HD2.out _).mono ?_;rintro e wn ⟨rfl,hb⟩));(refine hK.out _ _ (S2i0 (KKr1.out _ _ hb (S2o0 hH))) ?_);(clear hK K hH);(intro hH);(try simp only [Act.put,sA,sB,sC]);(replace hA:=hA.keep hb);(refine wpAnyU_lst (l':=tf 16 16383) (by kernel_rfl) ?_);(try clear hb);(revert hH);(revert hA);(revert gU);(revert gT);(revert wn);(exact hNr1.out)
       exact AllReadyU.nil
      refine Uc 0 rfl (fun K hK=>?_) ?_
      ·(try clear hb); (go_simp); (refine hK.out _ _ (S2i0 (KKr1.out _ _ Ba (S2o0 hH))) ?_); (clear hK K hH); (intro hH); (try simp only [Act.put, sA, sB, sC]); (replace hA := (hA.alU)); (obtain ⟨gU, hg⟩ : ∃ g, g = wn.heap.size := ⟨_, rfl⟩); (rw [← hg] at hA); (try rw [← hg]); (clear hg); (generalize wn.alloc (.cells #[.int .u32 0, .int .u32 0, .int .u32 0, .int .u32 0, .int .u32 0, .int .u32 0, .int .u32 0, .int .u32 0] 168) = wx13 at *); (refine Ur [11, 12] ?_); (refine Uc 0 rfl (fun K hK => ?_) ?_)
       ·(try clear hb);(go_simp);((go_at_call 140;refine (HD2.out _).mono ?_;rintro e wn ⟨rfl,hb⟩));(refine hK.out _ _ (S2i0 (KKr1.out _ _ hb (S2o0 hH))) ?_);(clear hK K hH);(intro hH);(try simp only [Act.put,sA,sB,sC]);(replace hA:=hA.keep hb);(refine U1 12 0 rfl (fun K hK=>?_));(try clear hb);(go_simp);(refine hK.out _ _ (S2i0 (KKr1.out _ _ Ba (S2o0 hH))) ?_);(clear hK K hH);(intro hH);(try simp only [Act.put,sA,sB,sC]);(replace hA:=(hA.alT));(obtain ⟨gT,hg⟩:∃ g,g=wn.heap.size:=⟨_,rfl⟩);(rw [← hg] at hA);(try rw [← hg]);(clear hg);(generalize wn.alloc (.cells #[.int .u32 0,.int .u32 0,.int .u32 0,.int .u32 0,.int .u32 0,.int .u32 0,.int .u32 0,.int .u32 0] 168)=wx12 at *);(refine wpAnyU_lst (l':=tf 16 16383) (by kernel_rfl) ?_);(try clear hb);(revert hH);(revert hA);(revert gU);(revert gT);(revert wx12);(exact hNr1.out)
       refine Uc 0 rfl (fun K hK=>?_) ?_
       ·(try clear hb);(go_simp);(refine hK.out _ _ (S2i0 (KKr1.out _ _ Ba (S2o0 hH))) ?_);(clear hK K hH);(intro hH);(try simp only [Act.put,sA,sB,sC]);(replace hA:=(hA.alT));(obtain ⟨gT,hg⟩:∃ g,g=wx13.heap.size:=⟨_,rfl⟩);(rw [← hg] at hA);(try rw [← hg]);(clear hg);(generalize wx13.alloc (.cells #[.int .u32 0,.int .u32 0,.int .u32 0,.int .u32 0,.int .u32 0,.int .u32 0,.int .u32 0,.int .u32 0] 168)=wx12 at *);(refine U1 11 0 rfl (fun K hK=>?_));(try clear hb);(go_simp);((go_at_call 140;refine (HD2.out _).mono ?_;rintro e wn ⟨rfl,hb⟩));(refine hK.out _ _ (S2i0 (KKr1.out _ _ hb (S2o0 hH))) ?_);(clear hK K hH);(intro hH);(try simp only [Act.put,sA,sB,sC]);(replace hA:=hA.keep hb);(refine wpAnyU_lst (l':=tf 16 16383) (by kernel_rfl) ?_);(try clear hb);(revert hH);(revert hA);(revert gU);(revert gT);(revert wn);(exact hNr1.out)
       exact AllReadyU.nil
      exact AllReadyU.nil
     refine Uc 0 rfl (fun K hK=>?_) ?_
     ·(try clear hb); (go_simp); (refine hK.out _ _ (S2i0 (KKr1.out _ _ Ba (S2o0 hH))) ?_); (clear hK K hH); (intro hH); (try simp only [Act.put, sA, sB, sC]); (replace hA := (hA.alT)); (obtain ⟨gT, hg⟩ : ∃ g, g = wn.heap.size := ⟨_, rfl⟩); (rw [← hg] at hA); (try rw [← hg]); (clear hg); (generalize wn.alloc (.cells #[.int .u32 0, .int .u32 0, .int .u32 0, .int .u32 0, .int .u32 0, .int .u32 0, .int .u32 0, .int .u32 0] 168) = wx12 at *); (refine Ur [9, 13] ?_); (refine Uc 0 rfl (fun K hK => ?_) ?_)
      ·(try clear hb); (go_simp); ((go_at_call 101; refine (HS2.out _).mono ?_; rintro e wn ⟨rfl, hb⟩)); (refine hK.out _ _ (S2i0 (KKr1.out _ _ hb (S2o0 hH))) ?_); (clear hK K hH); (intro hH); (try simp only [Act.put, sA, sB, sC]); (replace hA := hA.keep hb); (refine Ur [11, 13] ?_); (refine Uc 0 rfl (fun K hK => ?_) ?_)
       ·(try clear hb);(go_simp);((go_at_call 140;refine (HD2.out _).mono ?_;rintro e wn ⟨rfl,hb⟩));(refine hK.out _ _ (S2i0 (KKr1.out _ _ hb (S2o0 hH))) ?_);(clear hK K hH);(intro hH);(try simp only [Act.put,sA,sB,sC]);(replace hA:=hA.keep hb);(refine U1 13 0 rfl (fun K hK=>?_));(try clear hb);(go_simp);(refine hK.out _ _ (S2i0 (KKr1.out _ _ Ba (S2o0 hH))) ?_);(clear hK K hH);(intro hH);(try simp only [Act.put,sA,sB,sC]);(replace hA:=(hA.alU));(obtain ⟨gU,hg⟩:∃ g,g=wn.heap.size:=⟨_,rfl⟩);(rw [← hg] at hA);(try rw [← hg]);(clear hg);(generalize wn.alloc (.cells #[.int .u32 0,.int .u32 0,.int .u32 0,.int .u32 0,.int .u32 0,.int .u32 0,.int .u32 0,.int .u32 0] 168)=wx13 at *);(refine wpAnyU_lst (l':=tf 16 16383) (by kernel_rfl) ?_);(try clear hb);(revert hH);(revert hA);(revert gU);(revert gT);(revert wx13);(exact hNr1.out)
       refine Uc 0 rfl (fun K hK=>?_) ?_
       ·(try clear hb);(go_simp);(refine hK.out _ _ (S2i0 (KKr1.out _ _ Ba (S2o0 hH))) ?_);(clear hK K hH);(intro hH);(try simp only [Act.put,sA,sB,sC]);(replace hA:=(hA.alU));(obtain ⟨gU,hg⟩:∃ g,g=wn.heap.size:=⟨_,rfl⟩);(rw [← hg] at hA);(try rw [← hg]);(clear hg);(generalize wn.alloc (.cells #[.int .u32 0,.int .u32 0,.int .u32 0,.int .u32 0,.int .u32 0,.int .u32 0,.int .u32 0,.int .u32 0] 168)=wx13 at *);(refine U1 11 0 rfl (fun K hK=>?_));(try clear hb);(go_simp);((go_at_call 140;refine (HD2.out _).mono ?_;rintro e wn ⟨rfl,hb⟩));(refine hK.out _ _ (S2i0 (KKr1.out _ _ hb (S2o0 hH))) ?_);(clear hK K hH);(intro hH);(try simp only [Act.put,sA,sB,sC]);(replace hA:=hA.keep hb);(refine wpAnyU_lst (l':=tf 16 16383) (by kernel_rfl) ?_);(try clear hb);(revert hH);(revert hA);(revert gU);(revert gT);(revert wn);(exact hNr1.out)
       exact AllReadyU.nil
      refine Uc 0 rfl (fun K hK=>?_) ?_
      ·(try clear hb);(go_simp);(refine hK.out _ _ (S2i0 (KKr1.out _ _ Ba (S2o0 hH))) ?_);(clear hK K hH);(intro hH);(try simp only [Act.put,sA,sB,sC]);(replace hA:=(hA.alU));(obtain ⟨gU,hg⟩:∃ g,g=wx12.heap.size:=⟨_,rfl⟩);(rw [← hg] at hA);(try rw [← hg]);(clear hg);(generalize wx12.alloc (.cells #[.int .u32 0,.int .u32 0,.int .u32 0,.int .u32 0,.int .u32 0,.int .u32 0,.int .u32 0,.int .u32 0] 168)=wx13 at *);(refine U1 9 0 rfl (fun K hK=>?_));(try clear hb);(go_simp);((go_at_call 101;refine (HS2.out _).mono ?_;rintro e wn ⟨rfl,hb⟩));(refine hK.out _ _ (S2i0 (KKr1.out _ _ hb (S2o0 hH))) ?_);(clear hK K hH);(intro hH);(try simp only [Act.put,sA,sB,sC]);(replace hA:=hA.keep hb);(refine U1 11 0 rfl (fun K hK=>?_));(try clear hb);(go_simp);((go_at_call 140;refine (HD2.out _).mono ?_;rintro e wn ⟨rfl,hb⟩));(refine hK.out _ _ (S2i0 (KKr1.out _ _ hb (S2o0 hH))) ?_);(clear hK K hH);(intro hH);(try simp only [Act.put,sA,sB,sC]);(replace hA:=hA.keep hb);(refine wpAnyU_lst (l':=tf 16 16383) (by kernel_rfl) ?_);(try clear hb);(revert hH);(revert hA);(revert gU);(revert gT);(revert wn);(exact hNr1.out)
      exact AllReadyU.nil
     refine Uc 0 rfl (fun K hK=>?_) ?_
     ·(try clear hb); (go_simp); (refine hK.out _ _ (S2i0 (KKr1.out _ _ Ba (S2o0 hH))) ?_); (clear hK K hH); (intro hH); (try simp only [Act.put, sA, sB, sC]); (replace hA := (hA.alU)); (obtain ⟨gU, hg⟩ : ∃ g, g = wn.heap.size := ⟨_, rfl⟩); (rw [← hg] at hA); (try rw [← hg]); (clear hg); (generalize wn.alloc (.cells #[.int .u32 0, .int .u32 0, .int .u32 0, .int .u32 0, .int .u32 0, .int .u32 0, .int .u32 0, .int .u32 0] 168) = wx13 at *); (refine Ur [9, 12] ?_); (refine Uc 0 rfl (fun K hK => ?_) ?_)
      ·(try clear hb); (go_simp); ((go_at_call 101; refine (HS2.out _).mono ?_; rintro e wn ⟨rfl, hb⟩)); (refine hK.out _ _ (S2i0 (KKr1.out _ _ hb (S2o0 hH))) ?_); (clear hK K hH); (intro hH); (try simp only [Act.put, sA, sB, sC]); (replace hA := hA.keep hb); (refine Ur [11, 12] ?_); (refine Uc 0 rfl (fun K hK => ?_) ?_)
       ·(try clear hb);(go_simp);((go_at_call 140;refine (HD2.out _).mono ?_;rintro e wn ⟨rfl,hb⟩));(refine hK.out _ _ (S2i0 (KKr1.out _ _ hb (S2o0 hH))) ?_);(clear hK K hH);(intro hH);(try simp only [Act.put,sA,sB,sC]);(replace hA:=hA.keep hb);(refine U1 12 0 rfl (fun K hK=>?_));(try clear hb);(go_simp);(refine hK.out _ _ (S2i0 (KKr1.out _ _ Ba (S2o0 hH))) ?_);(clear hK K hH);(intro hH);(try simp only [Act.put,sA,sB,sC]);(replace hA:=(hA.alT));(obtain ⟨gT,hg⟩:∃ g,g=wn.heap.size:=⟨_,rfl⟩);(rw [← hg] at hA);(try rw [← hg]);(clear hg);(generalize wn.alloc (.cells #[.int .u32 0,.int .u32 0,.int .u32 0,.int .u32 0,.int .u32 0,.int .u32 0,.int .u32 0,.int .u32 0] 168)=wx12 at *);(refine wpAnyU_lst (l':=tf 16 16383) (by kernel_rfl) ?_);(try clear hb);(revert hH);(revert hA);(revert gU);(revert gT);(revert wx12);(exact hNr1.out)
       refine Uc 0 rfl (fun K hK=>?_) ?_
       ·(try clear hb);(go_simp);(refine hK.out _ _ (S2i0 (KKr1.out _ _ Ba (S2o0 hH))) ?_);(clear hK K hH);(intro hH);(try simp only [Act.put,sA,sB,sC]);(replace hA:=(hA.alT));(obtain ⟨gT,hg⟩:∃ g,g=wn.heap.size:=⟨_,rfl⟩);(rw [← hg] at hA);(try rw [← hg]);(clear hg);(generalize wn.alloc (.cells #[.int .u32 0,.int .u32 0,.int .u32 0,.int .u32 0,.int .u32 0,.int .u32 0,.int .u32 0,.int .u32 0] 168)=wx12 at *);(refine U1 11 0 rfl (fun K hK=>?_));(try clear hb);(go_simp);((go_at_call 140;refine (HD2.out _).mono ?_;rintro e wn ⟨rfl,hb⟩));(refine hK.out _ _ (S2i0 (KKr1.out _ _ hb (S2o0 hH))) ?_);(clear hK K hH);(intro hH);(try simp only [Act.put,sA,sB,sC]);(replace hA:=hA.keep hb);(refine wpAnyU_lst (l':=tf 16 16383) (by kernel_rfl) ?_);(try clear hb);(revert hH);(revert hA);(revert gU);(revert gT);(revert wn);(exact hNr1.out)
       exact AllReadyU.nil
      refine Uc 0 rfl (fun K hK=>?_) ?_
      ·(try clear hb);(go_simp);(refine hK.out _ _ (S2i0 (KKr1.out _ _ Ba (S2o0 hH))) ?_);(clear hK K hH);(intro hH);(try simp only [Act.put,sA,sB,sC]);(replace hA:=(hA.alT));(obtain ⟨gT,hg⟩:∃ g,g=wx13.heap.size:=⟨_,rfl⟩);(rw [← hg] at hA);(try rw [← hg]);(clear hg);(generalize wx13.alloc (.cells #[.int .u32 0,.int .u32 0,.int .u32 0,.int .u32 0,.int .u32 0,.int .u32 0,.int .u32 0,.int .u32 0] 168)=wx12 at *);(refine U1 9 0 rfl (fun K hK=>?_));(try clear hb);(go_simp);((go_at_call 101;refine (HS2.out _).mono ?_;rintro e wn ⟨rfl,hb⟩));(refine hK.out _ _ (S2i0 (KKr1.out _ _ hb (S2o0 hH))) ?_);(clear hK K hH);(intro hH);(try simp only [Act.put,sA,sB,sC]);(replace hA:=hA.keep hb);(refine U1 11 0 rfl (fun K hK=>?_));(try clear hb);(go_simp);((go_at_call 140;refine (HD2.out _).mono ?_;rintro e wn ⟨rfl,hb⟩));(refine hK.out _ _ (S2i0 (KKr1.out _ _ hb (S2o0 hH))) ?_);(clear hK K hH);(intro hH);(try simp only [Act.put,sA,sB,sC]);(replace hA:=hA.keep hb);(refine wpAnyU_lst (l':=tf 16 16383) (by kernel_rfl) ?_);(try clear hb);(revert hH);(revert hA);(revert gU);(revert gT);(revert wn);(exact hNr1.out)
      exact AllReadyU.nil
     exact AllReadyU.nil
    refine Uc 0 rfl (fun K hK=>?_) ?_
    ·(try clear hb); (go_simp); (refine hK.out _ _ (S2i0 (KKr1.out _ _ Ba (S2o0 hH))) ?_); (clear hK K hH); (intro hH); (try simp only [Act.put, sA, sB, sC]); (replace hA := (hA.alT)); (obtain ⟨gT, hg⟩ : ∃ g, g = wn.heap.size := ⟨_, rfl⟩); (rw [← hg] at hA); (try rw [← hg]); (clear hg); (generalize wn.alloc (.cells #[.int .u32 0, .int .u32 0, .int .u32 0, .int .u32 0, .int .u32 0, .int .u32 0, .int .u32 0, .int .u32 0] 168) = wx12 at *); (refine Ur [5, 13] ?_); (refine Uc 0 rfl (fun K hK => ?_) ?_)
     ·(try clear hb); (go_simp); ((go_at_call 140; refine (HD1.out _).mono ?_; rintro e wn ⟨rfl, hb⟩)); (refine hK.out _ _ (S2i0 (KKr1.out _ _ hb (S2o0 hH))) ?_); (clear hK K hH); (intro hH); (try simp only [Act.put, sA, sB, sC]); (replace hA := hA.keep hb); (refine Ur [9, 13] ?_); (refine Uc 0 rfl (fun K hK => ?_) ?_)
      ·(try clear hb); (go_simp); ((go_at_call 101; refine (HS2.out _).mono ?_; rintro e wn ⟨rfl, hb⟩)); (refine hK.out _ _ (S2i0 (KKr1.out _ _ hb (S2o0 hH))) ?_); (clear hK K hH); (intro hH); (try simp only [Act.put, sA, sB, sC]); (replace hA := hA.keep hb); (refine Ur [11, 13] ?_); (refine Uc 0 rfl (fun K hK => ?_) ?_)
       ·(try clear hb);(go_simp);((go_at_call 140;refine (HD2.out _).mono ?_;rintro e wn ⟨rfl,hb⟩));(refine hK.out _ _ (S2i0 (KKr1.out _ _ hb (S2o0 hH))) ?_);(clear hK K hH);(intro hH);(try simp only [Act.put,sA,sB,sC]);(replace hA:=hA.keep hb);(refine U1 13 0 rfl (fun K hK=>?_));(try clear hb);(go_simp);(refine hK.out _ _ (S2i0 (KKr1.out _ _ Ba (S2o0 hH))) ?_);(clear hK K hH);(intro hH);(try simp only [Act.put,sA,sB,sC]);(replace hA:=(hA.alU));(obtain ⟨gU,hg⟩:∃ g,g=wn.heap.size:=⟨_,rfl⟩);(rw [← hg] at hA);(try rw [← hg]);(clear hg);(generalize wn.alloc (.cells #[.int .u32 0,.int .u32 0,.int .u32 0,.int .u32 0,.int .u32 0,.int .u32 0,.int .u32 0,.int .u32 0] 168)=wx13 at *);(refine wpAnyU_lst (l':=tf 16 16383) (by kernel_rfl) ?_);(try clear hb);(revert hH);(revert hA);(revert gU);(revert gT);(revert wx13);(exact hNr1.out)
       refine Uc 0 rfl (fun K hK=>?_) ?_
       ·(try clear hb);(go_simp);(refine hK.out _ _ (S2i0 (KKr1.out _ _ Ba (S2o0 hH))) ?_);(clear hK K hH);(intro hH);(try simp only [Act.put,sA,sB,sC]);(replace hA:=(hA.alU));(obtain ⟨gU,hg⟩:∃ g,g=wn.heap.size:=⟨_,rfl⟩);(rw [← hg] at hA);(try rw [← hg]);(clear hg);(generalize wn.alloc (.cells #[.int .u32 0,.int .u32 0,.int .u32 0,.int .u32 0,.int .u32 0,.int .u32 0,.int .u32 0,.int .u32 0] 168)=wx13 at *);(refine U1 11 0 rfl (fun K hK=>?_));(try clear hb);(go_simp);((go_at_call 140;refine (HD2.out _).mono ?_;rintro e wn ⟨rfl,hb⟩));(refine hK.out _ _ (S2i0 (KKr1.out _ _ hb (S2o0 hH))) ?_);(clear hK K hH);(intro hH);(try simp only [Act.put,sA,sB,sC]);(replace hA:=hA.keep hb);(refine wpAnyU_lst (l':=tf 16 16383) (by kernel_rfl) ?_);(try clear hb);(revert hH);(revert hA);(revert gU);(revert gT);(revert wn);(exact hNr1.out)
       exact AllReadyU.nil
      refine Uc 0 rfl (fun K hK=>?_) ?_
      ·(try clear hb);(go_simp);(refine hK.out _ _ (S2i0 (KKr1.out _ _ Ba (S2o0 hH))) ?_);(clear hK K hH);(intro hH);(try simp only [Act.put,sA,sB,sC]);(replace hA:=(hA.alU));(obtain ⟨gU,hg⟩:∃ g,g=wn.heap.size:=⟨_,rfl⟩);(rw [← hg] at hA);(try rw [← hg]);(clear hg);(generalize wn.alloc (.cells #[.int .u32 0,.int .u32 0,.int .u32 0,.int .u32 0,.int .u32 0,.int .u32 0,.int .u32 0,.int .u32 0] 168)=wx13 at *);(refine U1 9 0 rfl (fun K hK=>?_));(try clear hb);(go_simp);((go_at_call 101;refine (HS2.out _).mono ?_;rintro e wn ⟨rfl,hb⟩));(refine hK.out _ _ (S2i0 (KKr1.out _ _ hb (S2o0 hH))) ?_);(clear hK K hH);(intro hH);(try simp only [Act.put,sA,sB,sC]);(replace hA:=hA.keep hb);(refine U1 11 0 rfl (fun K hK=>?_));(try clear hb);(go_simp);((go_at_call 140;refine (HD2.out _).mono ?_;rintro e wn ⟨rfl,hb⟩));(refine hK.out _ _ (S2i0 (KKr1.out _ _ hb (S2o0 hH))) ?_);(clear hK K hH);(intro hH);(try simp only [Act.put,sA,sB,sC]);(replace hA:=hA.keep hb);(refine wpAnyU_lst (l':=tf 16 16383) (by kernel_rfl) ?_);(try clear hb);(revert hH);(revert hA);(revert gU);(revert gT);(revert wn);(exact hNr1.out)
      exact AllReadyU.nil
     refine Uc 0 rfl (fun K hK=>?_) ?_
     ·(try clear hb);(go_simp);(refine hK.out _ _ (S2i0 (KKr1.out _ _ Ba (S2o0 hH))) ?_);(clear hK K hH);(intro hH);(try simp only [Act.put,sA,sB,sC]);(replace hA:=(hA.alU));(obtain ⟨gU,hg⟩:∃ g,g=wx12.heap.size:=⟨_,rfl⟩);(rw [← hg] at hA);(try rw [← hg]);(clear hg);(generalize wx12.alloc (.cells #[.int .u32 0,.int .u32 0,.int .u32 0,.int .u32 0,.int .u32 0,.int .u32 0,.int .u32 0,.int .u32 0] 168)=wx13 at *);(refine U1 5 0 rfl (fun K hK=>?_));(try clear hb);(go_simp);((go_at_call 140;refine (HD1.out _).mono ?_;rintro e wn ⟨rfl,hb⟩));(refine hK.out _ _ (S2i0 (KKr1.out _ _ hb (S2o0 hH))) ?_);(clear hK K hH);(intro hH);(try simp only [Act.put,sA,sB,sC]);(replace hA:=hA.keep hb);(refine U1 9 0 rfl (fun K hK=>?_));(try clear hb);(go_simp);((go_at_call 101;refine (HS2.out _).mono ?_;rintro e wn ⟨rfl,hb⟩));(refine hK.out _ _ (S2i0 (KKr1.out _ _ hb (S2o0 hH))) ?_);(clear hK K hH);(intro hH);(try simp only [Act.put,sA,sB,sC]);(replace hA:=hA.keep hb);(refine U1 11 0 rfl (fun K hK=>?_));(try clear hb);(go_simp);((go_at_call 140;refine (HD2.out _).mono ?_;rintro e wn ⟨rfl,hb⟩));(refine hK.out _ _ (S2i0 (KKr1.out _ _ hb (S2o0 hH))) ?_);(clear hK K hH);(intro hH);(try simp only [Act.put,sA,sB,sC]);(replace hA:=hA.keep hb);(refine wpAnyU_lst (l':=tf 16 16383) (by kernel_rfl) ?_);(try clear hb);(revert hH);(revert hA);(revert gU);(revert gT);(revert wn);(exact hNr1.out)
     exact AllReadyU.nil
    refine Uc 0 rfl (fun K hK=>?_) ?_
    ·(try clear hb); (go_simp); (refine hK.out _ _ (S2i0 (KKr1.out _ _ Ba (S2o0 hH))) ?_); (clear hK K hH); (intro hH); (try simp only [Act.put, sA, sB, sC]); (replace hA := (hA.alU)); (obtain ⟨gU, hg⟩ : ∃ g, g = wn.heap.size := ⟨_, rfl⟩); (rw [← hg] at hA); (try rw [← hg]); (clear hg); (generalize wn.alloc (.cells #[.int .u32 0, .int .u32 0, .int .u32 0, .int .u32 0, .int .u32 0, .int .u32 0, .int .u32 0, .int .u32 0] 168) = wx13 at *); (refine Ur [5, 12] ?_); (refine Uc 0 rfl (fun K hK => ?_) ?_)
     ·(try clear hb); (go_simp); ((go_at_call 140; refine (HD1.out _).mono ?_; rintro e wn ⟨rfl, hb⟩)); (refine hK.out _ _ (S2i0 (KKr1.out _ _ hb (S2o0 hH))) ?_); (clear hK K hH); (intro hH); (try simp only [Act.put, sA, sB, sC]); (replace hA := hA.keep hb); (refine Ur [9, 12] ?_); (refine Uc 0 rfl (fun K hK => ?_) ?_)
      ·(try clear hb); (go_simp); ((go_at_call 101; refine (HS2.out _).mono ?_; rintro e wn ⟨rfl, hb⟩)); (refine hK.out _ _ (S2i0 (KKr1.out _ _ hb (S2o0 hH))) ?_); (clear hK K hH); (intro hH); (try simp only [Act.put, sA, sB, sC]); (replace hA := hA.keep hb); (refine Ur [11, 12] ?_); (refine Uc 0 rfl (fun K hK => ?_) ?_)
       ·(try clear hb);(go_simp);((go_at_call 140;refine (HD2.out _).mono ?_;rintro e wn ⟨rfl,hb⟩));(refine hK.out _ _ (S2i0 (KKr1.out _ _ hb (S2o0 hH))) ?_);(clear hK K hH);(intro hH);(try simp only [Act.put,sA,sB,sC]);(replace hA:=hA.keep hb);(refine U1 12 0 rfl (fun K hK=>?_));(try clear hb);(go_simp);(refine hK.out _ _ (S2i0 (KKr1.out _ _ Ba (S2o0 hH))) ?_);(clear hK K hH);(intro hH);(try simp only [Act.put,sA,sB,sC]);(replace hA:=(hA.alT));(obtain ⟨gT,hg⟩:∃ g,g=wn.heap.size:=⟨_,rfl⟩);(rw [← hg] at hA);(try rw [← hg]);(clear hg);(generalize wn.alloc (.cells #[.int .u32 0,.int .u32 0,.int .u32 0,.int .u32 0,.int .u32 0,.int .u32 0,.int .u32 0,.int .u32 0] 168)=wx12 at *);(refine wpAnyU_lst (l':=tf 16 16383) (by kernel_rfl) ?_);(try clear hb);(revert hH);(revert hA);(revert gU);(revert gT);(revert wx12);(exact hNr1.out)
       refine Uc 0 rfl (fun K hK=>?_) ?_
       ·(try clear hb);(go_simp);(refine hK.out _ _ (S2i0 (KKr1.out _ _ Ba (S2o0 hH))) ?_);(clear hK K hH);(intro hH);(try simp only [Act.put,sA,sB,sC]);(replace hA:=(hA.alT));(obtain ⟨gT,hg⟩:∃ g,g=wn.heap.size:=⟨_,rfl⟩);(rw [← hg] at hA);(try rw [← hg]);(clear hg);(generalize wn.alloc (.cells #[.int .u32 0,.int .u32 0,.int .u32 0,.int .u32 0,.int .u32 0,.int .u32 0,.int .u32 0,.int .u32 0] 168)=wx12 at *);(refine U1 11 0 rfl (fun K hK=>?_));(try clear hb);(go_simp);((go_at_call 140;refine (HD2.out _).mono ?_;rintro e wn ⟨rfl,hb⟩));(refine hK.out _ _ (S2i0 (KKr1.out _ _ hb (S2o0 hH))) ?_);(clear hK K hH);(intro hH);(try simp only [Act.put,sA,sB,sC]);(replace hA:=hA.keep hb);(refine wpAnyU_lst (l':=tf 16 16383) (by kernel_rfl) ?_);(try clear hb);(revert hH);(revert hA);(revert gU);(revert gT);(revert wn);(exact hNr1.out)
       exact AllReadyU.nil
      refine Uc 0 rfl (fun K hK=>?_) ?_
      ·(try clear hb);(go_simp);(refine hK.out _ _ (S2i0 (KKr1.out _ _ Ba (S2o0 hH))) ?_);(clear hK K hH);(intro hH);(try simp only [Act.put,sA,sB,sC]);(replace hA:=(hA.alT));(obtain ⟨gT,hg⟩:∃ g,g=wn.heap.size:=⟨_,rfl⟩);(rw [← hg] at hA);(try rw [← hg]);(clear hg);(generalize wn.alloc (.cells #[.int .u32 0,.int .u32 0,.int .u32 0,.int .u32 0,.int .u32 0,.int .u32 0,.int .u32 0,.int .u32 0] 168)=wx12 at *);(refine U1 9 0 rfl (fun K hK=>?_));(try clear hb);(go_simp);((go_at_call 101;refine (HS2.out _).mono ?_;rintro e wn ⟨rfl,hb⟩));(refine hK.out _ _ (S2i0 (KKr1.out _ _ hb (S2o0 hH))) ?_);(clear hK K hH);(intro hH);(try simp only [Act.put,sA,sB,sC]);(replace hA:=hA.keep hb);(refine U1 11 0 rfl (fun K hK=>?_));(try clear hb);(go_simp);((go_at_call 140;refine (HD2.out _).mono ?_;rintro e wn ⟨rfl,hb⟩));(refine hK.out _ _ (S2i0 (KKr1.out _ _ hb (S2o0 hH))) ?_);(clear hK K hH);(intro hH);(try simp only [Act.put,sA,sB,sC]);(replace hA:=hA.keep hb);(refine wpAnyU_lst (l':=tf 16 16383) (by kernel_rfl) ?_);(try clear hb);(revert hH);(revert hA);(revert gU);(revert gT);(revert wn);(exact hNr1.out)
      exact AllReadyU.nil
     refine Uc 0 rfl (fun K hK=>?_) ?_
     ·(try clear hb);(go_simp);(refine hK.out _ _ (S2i0 (KKr1.out _ _ Ba (S2o0 hH))) ?_);(clear hK K hH);(intro hH);(try simp only [Act.put,sA,sB,sC]);(replace hA:=(hA.alT));(obtain ⟨gT,hg⟩:∃ g,g=wx13.heap.size:=⟨_,rfl⟩);(rw [← hg] at hA);(try rw [← hg]);(clear hg);(generalize wx13.alloc (.cells #[.int .u32 0,.int .u32 0,.int .u32 0,.int .u32 0,.int .u32 0,.int .u32 0,.int .u32 0,.int .u32 0] 168)=wx12 at *);(refine U1 5 0 rfl (fun K hK=>?_));(try clear hb);(go_simp);((go_at_call 140;refine (HD1.out _).mono ?_;rintro e wn ⟨rfl,hb⟩));(refine hK.out _ _ (S2i0 (KKr1.out _ _ hb (S2o0 hH))) ?_);(clear hK K hH);(intro hH);(try simp only [Act.put,sA,sB,sC]);(replace hA:=hA.keep hb);(refine U1 9 0 rfl (fun K hK=>?_));(try clear hb);(go_simp);((go_at_call 101;refine (HS2.out _).mono ?_;rintro e wn ⟨rfl,hb⟩));(refine hK.out _ _ (S2i0 (KKr1.out _ _ hb (S2o0 hH))) ?_);(clear hK K hH);(intro hH);(try simp only [Act.put,sA,sB,sC]);(replace hA:=hA.keep hb);(refine U1 11 0 rfl (fun K hK=>?_));(try clear hb);(go_simp);((go_at_call 140;refine (HD2.out _).mono ?_;rintro e wn ⟨rfl,hb⟩));(refine hK.out _ _ (S2i0 (KKr1.out _ _ hb (S2o0 hH))) ?_);(clear hK K hH);(intro hH);(try simp only [Act.put,sA,sB,sC]);(replace hA:=hA.keep hb);(refine wpAnyU_lst (l':=tf 16 16383) (by kernel_rfl) ?_);(try clear hb);(revert hH);(revert hA);(revert gU);(revert gT);(revert wn);(exact hNr1.out)
     exact AllReadyU.nil
    exact AllReadyU.nil
   refine Uc 0 rfl (fun K hK=>?_) ?_
   ·(try clear hb); (go_simp); (refine hK.out _ _ (S2i0 (KKr1.out _ _ Ba (S2o0 hH))) ?_); (clear hK K hH); (intro hH); (try simp only [Act.put, sA, sB, sC]); (replace hA := K2.drew (hA.alT)); (obtain ⟨gT, hg⟩ : ∃ g, g = wo.heap.size := ⟨_, rfl⟩); (rw [← hg] at hA); (try rw [← hg]); (clear hg); (generalize (wo.alloc (.cells #[.int .u32 0, .int .u32 0, .int .u32 0, .int .u32 0, .int .u32 0, .int .u32 0, .int .u32 0, .int .u32 0] 168)).drew = wx12 at *); (refine Ur [3, 13] ?_); (refine Uc 0 rfl (fun K hK => ?_) ?_)
    ·(try clear hb); (go_simp); ((go_at_call 101; refine (HS1.out _).mono ?_; rintro e wn ⟨rfl, hb⟩)); (refine hK.out _ _ (S2i0 (KKr1.out _ _ hb (S2o0 hH))) ?_); (clear hK K hH); (intro hH); (try simp only [Act.put, sA, sB, sC]); (replace hA := hA.keep hb); (refine Ur [5, 13] ?_); (refine Uc 0 rfl (fun K hK => ?_) ?_)
     ·(try clear hb); (go_simp); ((go_at_call 140; refine (HD1.out _).mono ?_; rintro e wn ⟨rfl, hb⟩)); (refine hK.out _ _ (S2i0 (KKr1.out _ _ hb (S2o0 hH))) ?_); (clear hK K hH); (intro hH); (try simp only [Act.put, sA, sB, sC]); (replace hA := hA.keep hb); (refine Ur [9, 13] ?_); (refine Uc 0 rfl (fun K hK => ?_) ?_)
      ·(try clear hb); (go_simp); ((go_at_call 101; refine (HS2.out _).mono ?_; rintro e wn ⟨rfl, hb⟩)); (refine hK.out _ _ (S2i0 (KKr1.out _ _ hb (S2o0 hH))) ?_); (clear hK K hH); (intro hH); (try simp only [Act.put, sA, sB, sC]); (replace hA := hA.keep hb); (refine Ur [11, 13] ?_); (refine Uc 0 rfl (fun K hK => ?_) ?_)
       ·(try clear hb);(go_simp);((go_at_call 140;refine (HD2.out _).mono ?_;rintro e wn ⟨rfl,hb⟩));(refine hK.out _ _ (S2i0 (KKr1.out _ _ hb (S2o0 hH))) ?_);(clear hK K hH);(intro hH);(try simp only [Act.put,sA,sB,sC]);(replace hA:=hA.keep hb);(refine U1 13 0 rfl (fun K hK=>?_));(try clear hb);(go_simp);(refine hK.out _ _ (S2i0 (KKr1.out _ _ Ba (S2o0 hH))) ?_);(clear hK K hH);(intro hH);(try simp only [Act.put,sA,sB,sC]);(replace hA:=(hA.alU));(obtain ⟨gU,hg⟩:∃ g,g=wn.heap.size:=⟨_,rfl⟩);(rw [← hg] at hA);(try rw [← hg]);(clear hg);(generalize wn.alloc (.cells #[.int .u32 0,.int .u32 0,.int .u32 0,.int .u32 0,.int .u32 0,.int .u32 0,.int .u32 0,.int .u32 0] 168)=wx13 at *);(refine wpAnyU_lst (l':=tf 16 16383) (by kernel_rfl) ?_);(try clear hb);(revert hH);(revert hA);(revert gU);(revert gT);(revert wx13);(exact hNr1.out)
       refine Uc 0 rfl (fun K hK=>?_) ?_
       ·(try clear hb);(go_simp);(refine hK.out _ _ (S2i0 (KKr1.out _ _ Ba (S2o0 hH))) ?_);(clear hK K hH);(intro hH);(try simp only [Act.put,sA,sB,sC]);(replace hA:=(hA.alU));(obtain ⟨gU,hg⟩:∃ g,g=wn.heap.size:=⟨_,rfl⟩);(rw [← hg] at hA);(try rw [← hg]);(clear hg);(generalize wn.alloc (.cells #[.int .u32 0,.int .u32 0,.int .u32 0,.int .u32 0,.int .u32 0,.int .u32 0,.int .u32 0,.int .u32 0] 168)=wx13 at *);(refine U1 11 0 rfl (fun K hK=>?_));(try clear hb);(go_simp);((go_at_call 140;refine (HD2.out _).mono ?_;rintro e wn ⟨rfl,hb⟩));(refine hK.out _ _ (S2i0 (KKr1.out _ _ hb (S2o0 hH))) ?_);(clear hK K hH);(intro hH);(try simp only [Act.put,sA,sB,sC]);(replace hA:=hA.keep hb);(refine wpAnyU_lst (l':=tf 16 16383) (by kernel_rfl) ?_);(try clear hb);(revert hH);(revert hA);(revert gU);(revert gT);(revert wn);(exact hNr1.out)
       exact AllReadyU.nil
      refine Uc 0 rfl (fun K hK=>?_) ?_
      ·(try clear hb);(go_simp);(refine hK.out _ _ (S2i0 (KKr1.out _ _ Ba (S2o0 hH))) ?_);(clear hK K hH);(intro hH);(try simp only [Act.put,sA,sB,sC]);(replace hA:=(hA.alU));(obtain ⟨gU,hg⟩:∃ g,g=wn.heap.size:=⟨_,rfl⟩);(rw [← hg] at hA);(try rw [← hg]);(clear hg);(generalize wn.alloc (.cells #[.int .u32 0,.int .u32 0,.int .u32 0,.int .u32 0,.int .u32 0,.int .u32 0,.int .u32 0,.int .u32 0] 168)=wx13 at *);(refine U1 9 0 rfl (fun K hK=>?_));(try clear hb);(go_simp);((go_at_call 101;refine (HS2.out _).mono ?_;rintro e wn ⟨rfl,hb⟩));(refine hK.out _ _ (S2i0 (KKr1.out _ _ hb (S2o0 hH))) ?_);(clear hK K hH);(intro hH);(try simp only [Act.put,sA,sB,sC]);(replace hA:=hA.keep hb);(refine U1 11 0 rfl (fun K hK=>?_));(try clear hb);(go_simp);((go_at_call 140;refine (HD2.out _).mono ?_;rintro e wn ⟨rfl,hb⟩));(refine hK.out _ _ (S2i0 (KKr1.out _ _ hb (S2o0 hH))) ?_);(clear hK K hH);(intro hH);(try simp only [Act.put,sA,sB,sC]);(replace hA:=hA.keep hb);(refine wpAnyU_lst (l':=tf 16 16383) (by kernel_rfl) ?_);(try clear hb);(revert hH);(revert hA);(revert gU);(revert gT);(revert wn);(exact hNr1.out)
      exact AllReadyU.nil
     refine Uc 0 rfl (fun K hK=>?_) ?_
     ·(try clear hb);(go_simp);(refine hK.out _ _ (S2i0 (KKr1.out _ _ Ba (S2o0 hH))) ?_);(clear hK K hH);(intro hH);(try simp only [Act.put,sA,sB,sC]);(replace hA:=(hA.alU));(obtain ⟨gU,hg⟩:∃ g,g=wn.heap.size:=⟨_,rfl⟩);(rw [← hg] at hA);(try rw [← hg]);(clear hg);(generalize wn.alloc (.cells #[.int .u32 0,.int .u32 0,.int .u32 0,.int .u32 0,.int .u32 0,.int .u32 0,.int .u32 0,.int .u32 0] 168)=wx13 at *);(refine U1 5 0 rfl (fun K hK=>?_));(try clear hb);(go_simp);((go_at_call 140;refine (HD1.out _).mono ?_;rintro e wn ⟨rfl,hb⟩));(refine hK.out _ _ (S2i0 (KKr1.out _ _ hb (S2o0 hH))) ?_);(clear hK K hH);(intro hH);(try simp only [Act.put,sA,sB,sC]);(replace hA:=hA.keep hb);(refine U1 9 0 rfl (fun K hK=>?_));(try clear hb);(go_simp);((go_at_call 101;refine (HS2.out _).mono ?_;rintro e wn ⟨rfl,hb⟩));(refine hK.out _ _ (S2i0 (KKr1.out _ _ hb (S2o0 hH))) ?_);(clear hK K hH);(intro hH);(try simp only [Act.put,sA,sB,sC]);(replace hA:=hA.keep hb);(refine U1 11 0 rfl (fun K hK=>?_));(try clear hb);(go_simp);((go_at_call 140;refine (HD2.out _).mono ?_;rintro e wn ⟨rfl,hb⟩));(refine hK.out _ _ (S2i0 (KKr1.out _ _ hb (S2o0 hH))) ?_);(clear hK K hH);(intro hH);(try simp only [Act.put,sA,sB,sC]);(replace hA:=hA.keep hb);(refine wpAnyU_lst (l':=tf 16 16383) (by kernel_rfl) ?_);(try clear hb);(revert hH);(revert hA);(revert gU);(revert gT);(revert wn);(exact hNr1.out)
     exact AllReadyU.nil
    refine Uc 0 rfl (fun K hK=>?_) ?_
    ·(try clear hb);(go_simp);(refine hK.out _ _ (S2i0 (KKr1.out _ _ Ba (S2o0 hH))) ?_);(clear hK K hH);(intro hH);(try simp only [Act.put,sA,sB,sC]);(replace hA:=(hA.alU));(obtain ⟨gU,hg⟩:∃ g,g=wx12.heap.size:=⟨_,rfl⟩);(rw [← hg] at hA);(try rw [← hg]);(clear hg);(generalize wx12.alloc (.cells #[.int .u32 0,.int .u32 0,.int .u32 0,.int .u32 0,.int .u32 0,.int .u32 0,.int .u32 0,.int .u32 0] 168)=wx13 at *);(refine U1 3 0 rfl (fun K hK=>?_));(try clear hb);(go_simp);((go_at_call 101;refine (HS1.out _).mono ?_;rintro e wn ⟨rfl,hb⟩));(refine hK.out _ _ (S2i0 (KKr1.out _ _ hb (S2o0 hH))) ?_);(clear hK K hH);(intro hH);(try simp only [Act.put,sA,sB,sC]);(replace hA:=hA.keep hb);(refine U1 5 0 rfl (fun K hK=>?_));(try clear hb);(go_simp);((go_at_call 140;refine (HD1.out _).mono ?_;rintro e wn ⟨rfl,hb⟩));(refine hK.out _ _ (S2i0 (KKr1.out _ _ hb (S2o0 hH))) ?_);(clear hK K hH);(intro hH);(try simp only [Act.put,sA,sB,sC]);(replace hA:=hA.keep hb);(refine U1 9 0 rfl (fun K hK=>?_));(try clear hb);(go_simp);((go_at_call 101;refine (HS2.out _).mono ?_;rintro e wn ⟨rfl,hb⟩));(refine hK.out _ _ (S2i0 (KKr1.out _ _ hb (S2o0 hH))) ?_);(clear hK K hH);(intro hH);(try simp only [Act.put,sA,sB,sC]);(replace hA:=hA.keep hb);(refine U1 11 0 rfl (fun K hK=>?_));(try clear hb);(go_simp);((go_at_call 140;refine (HD2.out _).mono ?_;rintro e wn ⟨rfl,hb⟩));(refine hK.out _ _ (S2i0 (KKr1.out _ _ hb (S2o0 hH))) ?_);(clear hK K hH);(intro hH);(try simp only [Act.put,sA,sB,sC]);(replace hA:=hA.keep hb);(refine wpAnyU_lst (l':=tf 16 16383) (by kernel_rfl) ?_);(try clear hb);(revert hH);(revert hA);(revert gU);(revert gT);(revert wn);(exact hNr1.out)
    exact AllReadyU.nil
   refine Uc 0 rfl (fun K hK=>?_) ?_
   ·(try clear hb); (go_simp); (refine hK.out _ _ (S2i0 (KKr1.out _ _ Ba (S2o0 hH))) ?_); (clear hK K hH); (intro hH); (try simp only [Act.put, sA, sB, sC]); (replace hA := K2.drew (hA.alU)); (obtain ⟨gU, hg⟩ : ∃ g, g = wo.heap.size := ⟨_, rfl⟩); (rw [← hg] at hA); (try rw [← hg]); (clear hg); (generalize (wo.alloc (.cells #[.int .u32 0, .int .u32 0, .int .u32 0, .int .u32 0, .int .u32 0, .int .u32 0, .int .u32 0, .int .u32 0] 168)).drew = wx13 at *); (refine Ur [3, 12] ?_); (refine Uc 0 rfl (fun K hK => ?_) ?_)
    ·(try clear hb); (go_simp); ((go_at_call 101; refine (HS1.out _).mono ?_; rintro e wn ⟨rfl, hb⟩)); (refine hK.out _ _ (S2i0 (KKr1.out _ _ hb (S2o0 hH))) ?_); (clear hK K hH); (intro hH); (try simp only [Act.put, sA, sB, sC]); (replace hA := hA.keep hb); (refine Ur [5, 12] ?_); (refine Uc 0 rfl (fun K hK => ?_) ?_)
     ·(try clear hb); (go_simp); ((go_at_call 140; refine (HD1.out _).mono ?_; rintro e wn ⟨rfl, hb⟩)); (refine hK.out _ _ (S2i0 (KKr1.out _ _ hb (S2o0 hH))) ?_); (clear hK K hH); (intro hH); (try simp only [Act.put, sA, sB, sC]); (replace hA := hA.keep hb); (refine Ur [9, 12] ?_); (refine Uc 0 rfl (fun K hK => ?_) ?_)
      ·(try clear hb); (go_simp); ((go_at_call 101; refine (HS2.out _).mono ?_; rintro e wn ⟨rfl, hb⟩)); (refine hK.out _ _ (S2i0 (KKr1.out _ _ hb (S2o0 hH))) ?_); (clear hK K hH); (intro hH); (try simp only [Act.put, sA, sB, sC]); (replace hA := hA.keep hb); (refine Ur [11, 12] ?_); (refine Uc 0 rfl (fun K hK => ?_) ?_)
       ·(try clear hb);(go_simp);((go_at_call 140;refine (HD2.out _).mono ?_;rintro e wn ⟨rfl,hb⟩));(refine hK.out _ _ (S2i0 (KKr1.out _ _ hb (S2o0 hH))) ?_);(clear hK K hH);(intro hH);(try simp only [Act.put,sA,sB,sC]);(replace hA:=hA.keep hb);(refine U1 12 0 rfl (fun K hK=>?_));(try clear hb);(go_simp);(refine hK.out _ _ (S2i0 (KKr1.out _ _ Ba (S2o0 hH))) ?_);(clear hK K hH);(intro hH);(try simp only [Act.put,sA,sB,sC]);(replace hA:=(hA.alT));(obtain ⟨gT,hg⟩:∃ g,g=wn.heap.size:=⟨_,rfl⟩);(rw [← hg] at hA);(try rw [← hg]);(clear hg);(generalize wn.alloc (.cells #[.int .u32 0,.int .u32 0,.int .u32 0,.int .u32 0,.int .u32 0,.int .u32 0,.int .u32 0,.int .u32 0] 168)=wx12 at *);(refine wpAnyU_lst (l':=tf 16 16383) (by kernel_rfl) ?_);(try clear hb);(revert hH);(revert hA);(revert gU);(revert gT);(revert wx12);(exact hNr1.out)
       refine Uc 0 rfl (fun K hK=>?_) ?_
       ·(try clear hb);(go_simp);(refine hK.out _ _ (S2i0 (KKr1.out _ _ Ba (S2o0 hH))) ?_);(clear hK K hH);(intro hH);(try simp only [Act.put,sA,sB,sC]);(replace hA:=(hA.alT));(obtain ⟨gT,hg⟩:∃ g,g=wn.heap.size:=⟨_,rfl⟩);(rw [← hg] at hA);(try rw [← hg]);(clear hg);(generalize wn.alloc (.cells #[.int .u32 0,.int .u32 0,.int .u32 0,.int .u32 0,.int .u32 0,.int .u32 0,.int .u32 0,.int .u32 0] 168)=wx12 at *);(refine U1 11 0 rfl (fun K hK=>?_));(try clear hb);(go_simp);((go_at_call 140;refine (HD2.out _).mono ?_;rintro e wn ⟨rfl,hb⟩));(refine hK.out _ _ (S2i0 (KKr1.out _ _ hb (S2o0 hH))) ?_);(clear hK K hH);(intro hH);(try simp only [Act.put,sA,sB,sC]);(replace hA:=hA.keep hb);(refine wpAnyU_lst (l':=tf 16 16383) (by kernel_rfl) ?_);(try clear hb);(revert hH);(revert hA);(revert gU);(revert gT);(revert wn);(exact hNr1.out)
       exact AllReadyU.nil
      refine Uc 0 rfl (fun K hK=>?_) ?_
      ·(try clear hb);(go_simp);(refine hK.out _ _ (S2i0 (KKr1.out _ _ Ba (S2o0 hH))) ?_);(clear hK K hH);(intro hH);(try simp only [Act.put,sA,sB,sC]);(replace hA:=(hA.alT));(obtain ⟨gT,hg⟩:∃ g,g=wn.heap.size:=⟨_,rfl⟩);(rw [← hg] at hA);(try rw [← hg]);(clear hg);(generalize wn.alloc (.cells #[.int .u32 0,.int .u32 0,.int .u32 0,.int .u32 0,.int .u32 0,.int .u32 0,.int .u32 0,.int .u32 0] 168)=wx12 at *);(refine U1 9 0 rfl (fun K hK=>?_));(try clear hb);(go_simp);((go_at_call 101;refine (HS2.out _).mono ?_;rintro e wn ⟨rfl,hb⟩));(refine hK.out _ _ (S2i0 (KKr1.out _ _ hb (S2o0 hH))) ?_);(clear hK K hH);(intro hH);(try simp only [Act.put,sA,sB,sC]);(replace hA:=hA.keep hb);(refine U1 11 0 rfl (fun K hK=>?_));(try clear hb);(go_simp);((go_at_call 140;refine (HD2.out _).mono ?_;rintro e wn ⟨rfl,hb⟩));(refine hK.out _ _ (S2i0 (KKr1.out _ _ hb (S2o0 hH))) ?_);(clear hK K hH);(intro hH);(try simp only [Act.put,sA,sB,sC]);(replace hA:=hA.keep hb);(refine wpAnyU_lst (l':=tf 16 16383) (by kernel_rfl) ?_);(try clear hb);(revert hH);(revert hA);(revert gU);(revert gT);(revert wn);(exact hNr1.out)
      exact AllReadyU.nil
     refine Uc 0 rfl (fun K hK=>?_) ?_
     ·(try clear hb);(go_simp);(refine hK.out _ _ (S2i0 (KKr1.out _ _ Ba (S2o0 hH))) ?_);(clear hK K hH);(intro hH);(try simp only [Act.put,sA,sB,sC]);(replace hA:=(hA.alT));(obtain ⟨gT,hg⟩:∃ g,g=wn.heap.size:=⟨_,rfl⟩);(rw [← hg] at hA);(try rw [← hg]);(clear hg);(generalize wn.alloc (.cells #[.int .u32 0,.int .u32 0,.int .u32 0,.int .u32 0,.int .u32 0,.int .u32 0,.int .u32 0,.int .u32 0] 168)=wx12 at *);(refine U1 5 0 rfl (fun K hK=>?_));(try clear hb);(go_simp);((go_at_call 140;refine (HD1.out _).mono ?_;rintro e wn ⟨rfl,hb⟩));(refine hK.out _ _ (S2i0 (KKr1.out _ _ hb (S2o0 hH))) ?_);(clear hK K hH);(intro hH);(try simp only [Act.put,sA,sB,sC]);(replace hA:=hA.keep hb);(refine U1 9 0 rfl (fun K hK=>?_));(try clear hb);(go_simp);((go_at_call 101;refine (HS2.out _).mono ?_;rintro e wn ⟨rfl,hb⟩));(refine hK.out _ _ (S2i0 (KKr1.out _ _ hb (S2o0 hH))) ?_);(clear hK K hH);(intro hH);(try simp only [Act.put,sA,sB,sC]);(replace hA:=hA.keep hb);(refine U1 11 0 rfl (fun K hK=>?_));(try clear hb);(go_simp);((go_at_call 140;refine (HD2.out _).mono ?_;rintro e wn ⟨rfl,hb⟩));(refine hK.out _ _ (S2i0 (KKr1.out _ _ hb (S2o0 hH))) ?_);(clear hK K hH);(intro hH);(try simp only [Act.put,sA,sB,sC]);(replace hA:=hA.keep hb);(refine wpAnyU_lst (l':=tf 16 16383) (by kernel_rfl) ?_);(try clear hb);(revert hH);(revert hA);(revert gU);(revert gT);(revert wn);(exact hNr1.out)
     exact AllReadyU.nil
    refine Uc 0 rfl (fun K hK=>?_) ?_
    ·(try clear hb);(go_simp);(refine hK.out _ _ (S2i0 (KKr1.out _ _ Ba (S2o0 hH))) ?_);(clear hK K hH);(intro hH);(try simp only [Act.put,sA,sB,sC]);(replace hA:=(hA.alT));(obtain ⟨gT,hg⟩:∃ g,g=wx13.heap.size:=⟨_,rfl⟩);(rw [← hg] at hA);(try rw [← hg]);(clear hg);(generalize wx13.alloc (.cells #[.int .u32 0,.int .u32 0,.int .u32 0,.int .u32 0,.int .u32 0,.int .u32 0,.int .u32 0,.int .u32 0] 168)=wx12 at *);(refine U1 3 0 rfl (fun K hK=>?_));(try clear hb);(go_simp);((go_at_call 101;refine (HS1.out _).mono ?_;rintro e wn ⟨rfl,hb⟩));(refine hK.out _ _ (S2i0 (KKr1.out _ _ hb (S2o0 hH))) ?_);(clear hK K hH);(intro hH);(try simp only [Act.put,sA,sB,sC]);(replace hA:=hA.keep hb);(refine U1 5 0 rfl (fun K hK=>?_));(try clear hb);(go_simp);((go_at_call 140;refine (HD1.out _).mono ?_;rintro e wn ⟨rfl,hb⟩));(refine hK.out _ _ (S2i0 (KKr1.out _ _ hb (S2o0 hH))) ?_);(clear hK K hH);(intro hH);(try simp only [Act.put,sA,sB,sC]);(replace hA:=hA.keep hb);(refine U1 9 0 rfl (fun K hK=>?_));(try clear hb);(go_simp);((go_at_call 101;refine (HS2.out _).mono ?_;rintro e wn ⟨rfl,hb⟩));(refine hK.out _ _ (S2i0 (KKr1.out _ _ hb (S2o0 hH))) ?_);(clear hK K hH);(intro hH);(try simp only [Act.put,sA,sB,sC]);(replace hA:=hA.keep hb);(refine U1 11 0 rfl (fun K hK=>?_));(try clear hb);(go_simp);((go_at_call 140;refine (HD2.out _).mono ?_;rintro e wn ⟨rfl,hb⟩));(refine hK.out _ _ (S2i0 (KKr1.out _ _ hb (S2o0 hH))) ?_);(clear hK K hH);(intro hH);(try simp only [Act.put,sA,sB,sC]);(replace hA:=hA.keep hb);(refine wpAnyU_lst (l':=tf 16 16383) (by kernel_rfl) ?_);(try clear hb);(revert hH);(revert hA);(revert gU);(revert gT);(revert wn);(exact hNr1.out)
    exact AllReadyU.nil
   exact AllReadyU.nil
  case prfr1 =>
   (intro wX gT gU hA hH);(have hWr1:Weaker (S2 (fun w'=>RC w gL gA gY gR x1 y1 x2 y2 x3 y3 dx dy w')):=weaker2 _);(refine U1 14 1 rfl (fun K hK=>?_));(try clear hb);(have hV:=(hA.pt _ rfl).1);(obtain ⟨z0,z1,z2,z3,z4,z5,z6,z7⟩:=Blk8.all hV);(have zf:=hV.free);(have hgl:=hV.lt);(have hA2:=hA.stT a);(go_simp);(refine hK.out _ _ (S2i1) ?_);(clear hK K hH);(intro hH);(try simp only [Act.put,sA,sB,sC]);(obtain ⟨wy1,hwy⟩:∃ w',w'=put8 wX gT a:=⟨_,rfl⟩);(rw [← hwy] at hA2);(unfold put8 at hwy);(try rw [← hwy] at hH);(rw [← hwy]);(clear hwy hA hV z0 z1 z2 z3 z4 z5 z6 z7 zf hgl);(refine U1 15 1 rfl (fun K hK=>?_));(obtain ⟨z0,z1,z2,z3,z4,z5,z6,z7⟩:=Blk8.all hA2.u);(have zf:=hA2.u.free);(have hgl:=hA2.u.lt);(have hA3:=hA2.stU b);(go_simp);(refine hK.out _ _ (S2i1) ?_);(clear hK K hH);(intro hH);(try simp only [Act.put,sA,sB,sC]);(obtain ⟨wy2,hwy⟩:∃ w',w'=put8 wy1 gU b:=⟨_,rfl⟩);(rw [← hwy] at hA3);(unfold put8 at hwy);(rw [← hwy]);(clear hwy hA2 z0 z1 z2 z3 z4 z5 z6 z7 zf hgl);(refine wpAnyU_done (by kernel_rfl) ?_ _ _);(refine NoPanic.normal ?_);(go_wp2_with fail);(go_meet);(exact ⟨gT,gU,rfl,rfl,hA3.1,hA3.2.1,hA3.2.2⟩)
 case rest =>
  obtain ⟨gD,gE,rfl,rfl,hrc,hbd,hbe⟩:=hcut
  clear hA hRC HS1 HS2 HD1 HD2
  obtain ⟨l0,l1,l2,l3,-,-,-,-,-,-⟩:=id hrc
  obtain ⟨v0,v1_,v2_,v3,v4,v5,v6,v7⟩:=Blk8.all hbd
  obtain ⟨t0,t1,t2,t3,t4,t5,t6,t7⟩:=Blk8.all hbe
  obtain ⟨wL,hwL⟩:∃ W,W=(wc.alloc (.cells #[.int .i64 x1,.int .i64 y1,.int .i64 x2,.int .i64 y2] 141)).alloc (.cells #[.int .u32 (digs a 0),.int .u32 (digs a 1),.int .u32 (digs a 2),.int .u32 (digs a 3),.int .u32 (digs a 4),.int .u32 (digs a 5),.int .u32 (digs a 6),.int .u32 (digs a 7),.int .u32 (digs b 0),.int .u32 (digs b 1),.int .u32 (digs b 2),.int .u32 (digs b 3),.int .u32 (digs b 4),.int .u32 (digs b 5),.int .u32 (digs b 6),.int .u32 (digs b 7)] 168):=⟨_,rfl⟩
  obtain ⟨gV,eV⟩:∃ g,g=wc.heap.size+1:=⟨_,rfl⟩
  obtain ⟨gO,eO⟩:∃ g,g=wc.heap.size:=⟨_,rfl⟩
  have hba:Below wc.heap.size wc wL:=by rw [hwL];go_grown
  have hlt:=hrc.lts
  have hld:=hbd.lt
  have hle:=hbe.lt
  have hRL0:RL w gL gA gY gR x1 y1 x2 y2 x3 y3 dx dy gD gE gV gO a b x1 y1 x2 y2 wL:=by
   refine ⟨hrc.keep hba,keepBlk hba hbd,keepBlk hba hbe,?_,?_,by omega,by omega,by omega,by omega,by omega,hwR⟩
   ·rw [hwL, eV]
    refine ⟨fun j hj=>?_,fun j hj=>?_⟩
    ·match j,hj with
     | 0,_ | 1,_ | 2,_ | 3,_ | 4,_ | 5,_ | 6,_ | 7,_=>go_simp
    ·match j,hj with
     | 0,_ | 1,_ | 2,_ | 3,_ | 4,_ | 5,_ | 6,_ | 7,_=>go_simp
   ·rw [hwL, eO]
    exact ⟨by go_simp,by go_simp,by go_simp,by go_simp,fun j=>by go_simp⟩
  have hlL:=hlt.1
  clear hba hlt hrc hbd hbe
  go_wp2
  rw [← hwL,← eV,← eO]
  clear hlL hld hle hwL eV eO l0 l1 l2 l3 v0 v1_ v2_ v3 v4 v5 v6 v7 t0 t1 t2 t3 t4 t5 t6 t7
  go_loopw [35] (fun i wr=>(i = .int .i64 0∧RL w gL gA gY gR x1 y1 x2 y2 x3 y3 dx dy gD gE gV gO a b x1 y1 x2 y2 wr)∨(∃ o1 o2 o3 o4,i = .int .i64 1∧((¬ a<0∧o1=x1∧o2=y1∧o3=x2∧o4=y2)∨(a<0∧¬ b<0∧o1=x1+E1∧o2=y1+E2∧o3=x2∧o4=y2))∧RL w gL gA gY gR x1 y1 x2 y2 x3 y3 dx dy gD gE gV gO a b o1 o2 o3 o4 wr)∨(∃ o1 o2 o3 o4,i = .int .i64 2∧R=(((o1,o2),(o3,o4)),true)∧RL w gL gA gY gR x1 y1 x2 y2 x3 y3 dx dy gD gE gV gO a b o1 o2 o3 o4 wr)) (fun i _=>2-(intOf i).toNat)
  case atStart=>exact .inl ⟨rfl,hRL0⟩
  case round =>
   clear hRL0
   obtain ⟨wo,rfl⟩:∃ wo:World,wo=wr:=⟨_,rfl⟩
   rcases hrel with ⟨rfl,hRL⟩ | ⟨o1,o2,o3,o4,rfl,hcase,hRL⟩ | ⟨o1,o2,o3,o4,rfl,hfin,hRL⟩
   ·-- the first end
    have hA:=hRL.ar
    obtain ⟨v0,v1,v2,v3,v4,v5,v6,v7⟩:=Blk16.at0 hA
    have hgl:=lt_of_cell v0
    obtain ⟨wp,hwp⟩:∃ w',w'=wo.alloc (.cells #[.int .u32 (digs a 0),.int .u32 (digs a 1),.int .u32 (digs a 2),.int .u32 (digs a 3),.int .u32 (digs a 4),.int .u32 (digs a 5),.int .u32 (digs a 6),.int .u32 (digs a 7)] 168):=⟨_,rfl⟩
    obtain ⟨gC,hgC⟩:∃ g,g=wo.heap.size:=⟨_,rfl⟩
    have hC:Blk8 wp gC (digs a):=by rw [hwp];exact Blk8.lit hgC
    replace hRL:=hRL.keep (show Below wo.heap.size wo wp by rw [hwp];go_grown)
    go_upto_region 6 with fail
    rw [← hwp,← hgC]
    clear hwp hgC v0 v1 v2 v3 v4 v5 v6 v7 hgl hA
    obtain ⟨v0,v1,v2,v3,v4,v5,v6,v7⟩:=Blk8.all hC
    go_wp2_with fail
    refine (HBa.out _).mono ?_
    rintro e w5 ⟨rfl,hb5⟩
    replace hRL:=hRL.keep hb5
    clear hb5 v0 v1 v2 v3 v4 v5 v6 v7 hC
    by_cases hA0:a<0
    ·obtain rfl : av = true := by rw [HAV.out]; exact decide_eq_true hA0
     -- both ends below?
     obtain ⟨v0,v1,v2,v3,v4,v5,v6,v7⟩:=Blk8.all hRL.bd
     go_wp2_with fail
     refine (HBa.out _).mono ?_
     rintro e w6 ⟨rfl,hb6⟩
     replace hRL:=hRL.keep hb6
     clear hb6 v0 v1 v2 v3 v4 v5 v6 v7
     obtain ⟨v0,v1,v2,v3,v4,v5,v6,v7⟩:=Blk8.all hRL.be
     go_wp2_with fail
     refine (HBb.out _).mono ?_
     rintro e w7 ⟨rfl,hb7⟩
     replace hRL:=hRL.keep hb7
     clear hb7 v0 v1 v2 v3 v4 v5 v6 v7
     by_cases hB0:b<0
     ·obtain rfl : bv = true := by rw [HBV.out]; exact decide_eq_true hB0
      have HC2:Hid (R=(((x1,y1),(x2,y2)),false)):=by show _=_;rw [HC.out,HAB.out,if_pos ⟨hA0,hB0⟩]
      obtain ⟨⟨⟨_,z0⟩,⟨_,z1⟩,⟨_,z2⟩,⟨_,z3⟩⟩,zf⟩:=hRL.rc.z
      obtain ⟨l0,l1,l2,l3,-,-,-,-,-,-⟩:=id hRL.rc
      have hgl:=lt_of_cell z0
      have hB:=hRL.rc.bel
      go_wp2
      refine bodyPost_ret (v:=clpW (((x1,y1),(x2,y2)),false)) (by simp [clpW,results,Tryz.results100,go_sem,z0,z1,z2,z3]) rfl ⟨by rw [HC2.out],(((hB.setCell (p:=⟨gR,0,none⟩) hwR _).setCell (p:=⟨gR,1,none⟩) hwR _).setCell (p:=⟨gR,2,none⟩) hwR _).setCell (p:=⟨gR,3,none⟩) hwR _⟩
     ·obtain rfl : bv = false := by rw [HBV.out]; exact decide_eq_false hB0
      obtain ⟨q1,q2⟩:=HQ.out (.inl ⟨hA0,by omega⟩)
      have HFx:=HFx0
      have HFy:=HFy0
      have HXx:=HXx0
      have HXy:=HXy0
      have HVx:=HVx0
      have HVy:=HVy0
      have HSU:=hid (bsub_calls a b)
      have hlo:=run_lo (hiW (a-b)) (loW (a-b))
      have HWI:Hid (∀ w,Calls Tryz.prog 143 #[bigV (a-b)] w (Ret (.agg #[.int .i64 (hiW (a-b)),.int .u64 (loW (a-b))]) w)):=wide_calls (a-b)
      obtain ⟨v0,v1,v2,v3,v4,v5,v6,v7⟩:=Blk8.all hRL.bd
      obtain ⟨t0,t1,t2,t3,t4,t5,t6,t7⟩:=Blk8.all hRL.be
      go_wp2_with fail
      refine (HSU.out _).mono ?_
      rintro e w8 ⟨rfl,hb8⟩
      replace hRL:=hRL.keep hb8
      clear hb8 v0 v1 v2 v3 v4 v5 v6 v7 t0 t1 t2 t3 t4 t5 t6 t7 HSU
      go_wp2_with fail
      refine (HWI.out _).mono ?_
      rintro e w9 ⟨rfl,hb9⟩
      replace hRL:=hRL.keep hb9
      clear hb9 HWI
      obtain ⟨wo,rfl⟩:∃ wo:World,wo=w9:=⟨_,rfl⟩
      go_upto_region 10 with fail
      refine wp_region_noPanic ?_
      refine wp_region_U (S:=(S2 (fun w'=>RL w gL gA gY gR x1 y1 x2 y2 x3 y3 dx dy gD gE gV gO a b x1 y1 x2 y2 w'))) (T:=(fun _=>0)) (by kernel_rfl) (S2i0 (hRL.keep (Below.refl _ _).drew)) (fun hH=>?_)
      have hWr2:Weaker (S2 (fun w'=>RL w gL gA gY gR x1 y1 x2 y2 x3 y3 dx dy gD gE gV gO a b x1 y1 x2 y2 w')):=weaker2 _
      refine Utn [(0,57),(1,58),(2,59),(3,60),(4,61),(5,62),(6,63),(8,65),(10,67)] 8 0 0 (L':=?Lr2_1) hWr2 hH ?yr2_1 ?_
      case yr2_1=>((iterate 9 apply tkC;rfl;kernel_rfl;intro w' hSw;replace hSw:=S2o0 hSw;(try dsimp only at hSw);have q0:=hSw;obtain ⟨qa0_0,qa0_1,qa0_2,qa0_3,qa0_4,qa0_5,qa0_6,qa0_7,qa0_8,qa0_9,qa0_10,qa0_11⟩:=RL.loads q0;(try simp only [sB,sC]);go_simp;(try with_reducible rfl));exact tkN)
      simp only [sB,sC]
      refine U1 7 0 rfl (fun K hK=>?_)
      try clear hb
      go_simp
      (go_at_call 133;refine (HFx.out _).mono ?_;rintro e wn ⟨rfl,hb⟩)
      refine hK.out _ _ (S2i0 (by have hG:=hH;replace hG:=S2o0 hG;(try dsimp only at hG);have q0:=hG;exact RL.keep hb q0)) (fun hH2=>?_)
      clear hK K hH
      rename _=>hH
      try simp only [Act.put,sA,sB,sC]
      refine U1 9 0 rfl (fun K hK=>?_)
      try clear hb
      go_simp
      (go_at_call 144;refine (HXx.out _).mono ?_;rintro e wn ⟨rfl,hb⟩)
      refine hK.out _ _ (S2i0 (by have hG:=hH;replace hG:=S2o0 hG;(try dsimp only at hG);have q0:=hG;exact RL.keep hb q0)) (fun hH2=>?_)
      clear hK K hH
      rename _=>hH
      try simp only [Act.put,sA,sB,sC]
      refine U1 11 0 rfl (fun K hK=>?_)
      try clear hb
      go_simp
      (go_at_call 145;refine (HVx.out _).mono ?_;rintro e wn ⟨rfl,hb⟩)
      refine hK.out _ _ (S2i0 (by have hG:=hH;replace hG:=S2o0 hG;(try dsimp only at hG);have q0:=hG;exact RL.keep hb q0)) (fun hH2=>?_)
      clear hK K hH
      rename _=>hH
      try simp only [Act.put,sA,sB,sC]
      refine Utn [(12,56),(13,69),(14,70),(15,14),(16,15)] 0 0 0 (L':=?Lr2_13) hWr2 hH ?yr2_13 ?_
      case yr2_13=>((iterate 5 apply tkC;rfl;kernel_rfl;intro w' hSw;clear hSw;(try simp only [sB,sC]);go_simp;(try with_reducible rfl));exact tkN)
      simp only [sB,sC]
      refine wpAnyU_done (by kernel_rfl) ?_ _ _
      refine NoPanic.normal ?_
      clear hWr2
      replace hH:=S2o0 hH
      (try dsimp only at hH)
      have k0:=hH
      clear hH hRL
      try clear hb
      have hRL:=k0
      clear k0
      obtain ⟨wo,rfl⟩:∃ wo:World,wo=wn:=⟨_,rfl⟩
      go_upto_region 11 with fail
      refine wp_region_noPanic ?_
      refine wp_region_U (S:=(S2 (fun w'=>RL w gL gA gY gR x1 y1 x2 y2 x3 y3 dx dy gD gE gV gO a b x1 y1 x2 y2 w'))) (T:=(fun _=>0)) (by kernel_rfl) (S2i0 (hRL.keep (Below.refl _ _).drew)) (fun hH=>?_)
      have hWr3:Weaker (S2 (fun w'=>RL w gL gA gY gR x1 y1 x2 y2 x3 y3 dx dy gD gE gV gO a b x1 y1 x2 y2 w')):=weaker2 _
      refine Utn [(0,72),(1,73),(2,74),(3,75),(4,76),(5,77),(6,78),(8,80),(10,82)] 8 0 0 (L':=?Lr3_1) hWr3 hH ?yr3_1 ?_
      case yr3_1=>((iterate 9 apply tkC;rfl;kernel_rfl;intro w' hSw;replace hSw:=S2o0 hSw;(try dsimp only at hSw);have q0:=hSw;obtain ⟨qa0_0,qa0_1,qa0_2,qa0_3,qa0_4,qa0_5,qa0_6,qa0_7,qa0_8,qa0_9,qa0_10,qa0_11⟩:=RL.loads q0;(try simp only [sB,sC]);go_simp;(try with_reducible rfl));exact tkN)
      simp only [sB,sC]
      refine U1 7 0 rfl (fun K hK=>?_)
      try clear hb
      go_simp
      (go_at_call 133;refine (HFy.out _).mono ?_;rintro e wn ⟨rfl,hb⟩)
      refine hK.out _ _ (S2i0 (by have hG:=hH;replace hG:=S2o0 hG;(try dsimp only at hG);have q0:=hG;exact RL.keep hb q0)) (fun hH2=>?_)
      clear hK K hH
      rename _=>hH
      try simp only [Act.put,sA,sB,sC]
      refine U1 9 0 rfl (fun K hK=>?_)
      try clear hb
      go_simp
      (go_at_call 144;refine (HXy.out _).mono ?_;rintro e wn ⟨rfl,hb⟩)
      refine hK.out _ _ (S2i0 (by have hG:=hH;replace hG:=S2o0 hG;(try dsimp only at hG);have q0:=hG;exact RL.keep hb q0)) (fun hH2=>?_)
      clear hK K hH
      rename _=>hH
      try simp only [Act.put,sA,sB,sC]
      refine U1 11 0 rfl (fun K hK=>?_)
      try clear hb
      go_simp
      (go_at_call 145;refine (HVy.out _).mono ?_;rintro e wn ⟨rfl,hb⟩)
      refine hK.out _ _ (S2i0 (by have hG:=hH;replace hG:=S2o0 hG;(try dsimp only at hG);have q0:=hG;exact RL.keep hb q0)) (fun hH2=>?_)
      clear hK K hH
      rename _=>hH
      try simp only [Act.put,sA,sB,sC]
      refine Utn [(12,71),(13,84),(14,85),(15,16),(16,17)] 0 0 0 (L':=?Lr3_13) hWr3 hH ?yr3_13 ?_
      case yr3_13=>((iterate 5 apply tkC;rfl;kernel_rfl;intro w' hSw;clear hSw;(try simp only [sB,sC]);go_simp;(try with_reducible rfl));exact tkN)
      simp only [sB,sC]
      refine wpAnyU_done (by kernel_rfl) ?_ _ _
      refine NoPanic.normal ?_
      clear hWr3
      replace hH:=S2o0 hH
      (try dsimp only at hH)
      have k0:=hH
      clear hH hRL
      try clear hb
      have hRL:=k0
      clear k0
      obtain ⟨wo,rfl⟩:∃ wo:World,wo=wn:=⟨_,rfl⟩
      obtain ⟨l0,l1,-,-,-,-,-,-,-,-⟩:=id hRL.rc
      obtain ⟨z0,z1,z2,z3,zf⟩:=id hRL.o
      have hgl:=lt_of_cell z0
      have hRL2:=hRL.set0 (x1+E1) (y1+E2)
      unfold putO0 at hRL2
      clear HFx HFy HXx HXy HVx HVy
      go_wp2
      go_roundw
      case rel=>exact .inr (.inl ⟨_,_,_,_,rfl,.inr ⟨hA0,by omega,rfl,rfl,rfl,rfl⟩,hRL2⟩)
      case measure=>simp [intOf]
    ·obtain rfl : av = false := by rw [HAV.out]; exact decide_eq_false hA0
     go_wp2
     go_roundw
     case rel=>exact .inr (.inl ⟨_,_,_,_,rfl,.inl ⟨by omega,rfl,rfl,rfl,rfl⟩,hRL⟩)
     case measure=>simp [intOf]
   ·-- the second end
    have HCA:=hid hcase
    clear hcase
    have hA:=hRL.ar
    obtain ⟨v0,v1,v2,v3,v4,v5,v6,v7⟩:=Blk16.at1 hA
    have hgl:=lt_of_cell v0
    obtain ⟨wp,hwp⟩:∃ w',w'=wo.alloc (.cells #[.int .u32 (digs b 0),.int .u32 (digs b 1),.int .u32 (digs b 2),.int .u32 (digs b 3),.int .u32 (digs b 4),.int .u32 (digs b 5),.int .u32 (digs b 6),.int .u32 (digs b 7)] 168):=⟨_,rfl⟩
    obtain ⟨gC,hgC⟩:∃ g,g=wo.heap.size:=⟨_,rfl⟩
    have hC:Blk8 wp gC (digs b):=by rw [hwp];exact Blk8.lit hgC
    replace hRL:=hRL.keep (show Below wo.heap.size wo wp by rw [hwp];go_grown)
    go_upto_region 6 with fail
    rw [← hwp,← hgC]
    clear hwp hgC v0 v1 v2 v3 v4 v5 v6 v7 hgl hA
    obtain ⟨v0,v1,v2,v3,v4,v5,v6,v7⟩:=Blk8.all hC
    go_wp2_with fail
    refine (HBb.out _).mono ?_
    rintro e w5 ⟨rfl,hb5⟩
    replace hRL:=hRL.keep hb5
    clear hb5 v0 v1 v2 v3 v4 v5 v6 v7 hC
    by_cases hB0:b<0
    ·obtain rfl : bv = true := by rw [HBV.out]; exact decide_eq_true hB0
     have hA0:¬ a<0:=by
      rcases HCA.out with h | h
      ·have:=h.1;omega
      ·have:=h.2.1;omega
     obtain ⟨-,rfl,rfl,rfl,rfl⟩:¬ a<0∧o1=x1∧o2=y1∧o3=x2∧o4=y2:=by
      rcases HCA.out with h | h
      ·exact ⟨hA0,h.2⟩
      ·exact absurd h.1 hA0
     clear HCA
     obtain rfl:av=false:=by rw [HAV.out];exact decide_eq_false hA0
     have HC2:Hid (R=(((o1,o2),(o1+E1,o2+E2)),true)):=by show _=_;rw [HC.out,HAB.out,if_neg (fun h=>hA0 h.1),if_neg hA0,if_pos hB0]
     obtain ⟨v0,v1,v2,v3,v4,v5,v6,v7⟩:=Blk8.all hRL.bd
     go_wp2_with fail
     refine (HBa.out _).mono ?_
     rintro e w6 ⟨rfl,hb6⟩
     replace hRL:=hRL.keep hb6
     clear hb6 v0 v1 v2 v3 v4 v5 v6 v7
     obtain ⟨q1,q2⟩:=HQ.out (.inr ⟨by omega,hB0⟩)
     have HFx:=HFx0
     have HFy:=HFy0
     have HXx:=HXx0
     have HXy:=HXy0
     have HVx:=HVx0
     have HVy:=HVy0
     have HSU:=hid (bsub_calls a b)
     have hlo:=run_lo (hiW (a-b)) (loW (a-b))
     have HWI:Hid (∀ w,Calls Tryz.prog 143 #[bigV (a-b)] w (Ret (.agg #[.int .i64 (hiW (a-b)),.int .u64 (loW (a-b))]) w)):=wide_calls (a-b)
     obtain ⟨v0,v1,v2,v3,v4,v5,v6,v7⟩:=Blk8.all hRL.bd
     obtain ⟨t0,t1,t2,t3,t4,t5,t6,t7⟩:=Blk8.all hRL.be
     go_wp2_with fail
     refine (HSU.out _).mono ?_
     rintro e w8 ⟨rfl,hb8⟩
     replace hRL:=hRL.keep hb8
     clear hb8 v0 v1 v2 v3 v4 v5 v6 v7 t0 t1 t2 t3 t4 t5 t6 t7 HSU
     go_wp2_with fail
     refine (HWI.out _).mono ?_
     rintro e w9 ⟨rfl,hb9⟩
     replace hRL:=hRL.keep hb9
     clear hb9 HWI
     obtain ⟨wo,rfl⟩:∃ wo:World,wo=w9:=⟨_,rfl⟩
     go_upto_region 10 with fail
     refine wp_region_noPanic ?_
     refine wp_region_U (S:=(S2 (fun w'=>RL w gL gA gY gR o1 o2 o3 o4 x3 y3 dx dy gD gE gV gO a b o1 o2 o3 o4 w'))) (T:=(fun _=>0)) (by kernel_rfl) (S2i0 (hRL.keep (Below.refl _ _).drew)) (fun hH=>?_)
     have hWr4:Weaker (S2 (fun w'=>RL w gL gA gY gR o1 o2 o3 o4 x3 y3 dx dy gD gE gV gO a b o1 o2 o3 o4 w')):=weaker2 _
     refine Utn [(0,57),(1,58),(2,59),(3,60),(4,61),(5,62),(6,63),(8,65),(10,67)] 8 0 0 (L':=?Lr4_1) hWr4 hH ?yr4_1 ?_
     case yr4_1=>((iterate 9 apply tkC;rfl;kernel_rfl;intro w' hSw;replace hSw:=S2o0 hSw;(try dsimp only at hSw);have q0:=hSw;obtain ⟨qa0_0,qa0_1,qa0_2,qa0_3,qa0_4,qa0_5,qa0_6,qa0_7,qa0_8,qa0_9,qa0_10,qa0_11⟩:=RL.loads q0;(try simp only [sB,sC]);go_simp;(try with_reducible rfl));exact tkN)
     simp only [sB,sC]
     refine U1 7 0 rfl (fun K hK=>?_)
     try clear hb
     go_simp
     (go_at_call 133;refine (HFx.out _).mono ?_;rintro e wn ⟨rfl,hb⟩)
     refine hK.out _ _ (S2i0 (by have hG:=hH;replace hG:=S2o0 hG;(try dsimp only at hG);have q0:=hG;exact RL.keep hb q0)) (fun hH2=>?_)
     clear hK K hH
     rename _=>hH
     try simp only [Act.put,sA,sB,sC]
     refine U1 9 0 rfl (fun K hK=>?_)
     try clear hb
     go_simp
     (go_at_call 144;refine (HXx.out _).mono ?_;rintro e wn ⟨rfl,hb⟩)
     refine hK.out _ _ (S2i0 (by have hG:=hH;replace hG:=S2o0 hG;(try dsimp only at hG);have q0:=hG;exact RL.keep hb q0)) (fun hH2=>?_)
     clear hK K hH
     rename _=>hH
     try simp only [Act.put,sA,sB,sC]
     refine U1 11 0 rfl (fun K hK=>?_)
     try clear hb
     go_simp
     (go_at_call 145;refine (HVx.out _).mono ?_;rintro e wn ⟨rfl,hb⟩)
     refine hK.out _ _ (S2i0 (by have hG:=hH;replace hG:=S2o0 hG;(try dsimp only at hG);have q0:=hG;exact RL.keep hb q0)) (fun hH2=>?_)
     clear hK K hH
     rename _=>hH
     try simp only [Act.put,sA,sB,sC]
     refine Utn [(12,56),(13,69),(14,70),(15,14),(16,15)] 0 0 0 (L':=?Lr4_13) hWr4 hH ?yr4_13 ?_
     case yr4_13=>((iterate 5 apply tkC;rfl;kernel_rfl;intro w' hSw;clear hSw;(try simp only [sB,sC]);go_simp;(try with_reducible rfl));exact tkN)
     simp only [sB,sC]
     refine wpAnyU_done (by kernel_rfl) ?_ _ _
     refine NoPanic.normal ?_
     clear hWr4
     replace hH:=S2o0 hH
     (try dsimp only at hH)
     have k0:=hH
     clear hH hRL
     try clear hb
     have hRL:=k0
     clear k0
     obtain ⟨wo,rfl⟩:∃ wo:World,wo=wn:=⟨_,rfl⟩
     go_upto_region 11 with fail
     refine wp_region_noPanic ?_
     refine wp_region_U (S:=(S2 (fun w'=>RL w gL gA gY gR o1 o2 o3 o4 x3 y3 dx dy gD gE gV gO a b o1 o2 o3 o4 w'))) (T:=(fun _=>0)) (by kernel_rfl) (S2i0 (hRL.keep (Below.refl _ _).drew)) (fun hH=>?_)
     have hWr5:Weaker (S2 (fun w'=>RL w gL gA gY gR o1 o2 o3 o4 x3 y3 dx dy gD gE gV gO a b o1 o2 o3 o4 w')):=weaker2 _
     refine Utn [(0,72),(1,73),(2,74),(3,75),(4,76),(5,77),(6,78),(8,80),(10,82)] 8 0 0 (L':=?Lr5_1) hWr5 hH ?yr5_1 ?_
     case yr5_1=>((iterate 9 apply tkC;rfl;kernel_rfl;intro w' hSw;replace hSw:=S2o0 hSw;(try dsimp only at hSw);have q0:=hSw;obtain ⟨qa0_0,qa0_1,qa0_2,qa0_3,qa0_4,qa0_5,qa0_6,qa0_7,qa0_8,qa0_9,qa0_10,qa0_11⟩:=RL.loads q0;(try simp only [sB,sC]);go_simp;(try with_reducible rfl));exact tkN)
     simp only [sB,sC]
     refine U1 7 0 rfl (fun K hK=>?_)
     try clear hb
     go_simp
     (go_at_call 133;refine (HFy.out _).mono ?_;rintro e wn ⟨rfl,hb⟩)
     refine hK.out _ _ (S2i0 (by have hG:=hH;replace hG:=S2o0 hG;(try dsimp only at hG);have q0:=hG;exact RL.keep hb q0)) (fun hH2=>?_)
     clear hK K hH
     rename _=>hH
     try simp only [Act.put,sA,sB,sC]
     refine U1 9 0 rfl (fun K hK=>?_)
     try clear hb
     go_simp
     (go_at_call 144;refine (HXy.out _).mono ?_;rintro e wn ⟨rfl,hb⟩)
     refine hK.out _ _ (S2i0 (by have hG:=hH;replace hG:=S2o0 hG;(try dsimp only at hG);have q0:=hG;exact RL.keep hb q0)) (fun hH2=>?_)
     clear hK K hH
     rename _=>hH
     try simp only [Act.put,sA,sB,sC]
     refine U1 11 0 rfl (fun K hK=>?_)
     try clear hb
     go_simp
     (go_at_call 145;refine (HVy.out _).mono ?_;rintro e wn ⟨rfl,hb⟩)
     refine hK.out _ _ (S2i0 (by have hG:=hH;replace hG:=S2o0 hG;(try dsimp only at hG);have q0:=hG;exact RL.keep hb q0)) (fun hH2=>?_)
     clear hK K hH
     rename _=>hH
     try simp only [Act.put,sA,sB,sC]
     refine Utn [(12,71),(13,84),(14,85),(15,16),(16,17)] 0 0 0 (L':=?Lr5_13) hWr5 hH ?yr5_13 ?_
     case yr5_13=>((iterate 5 apply tkC;rfl;kernel_rfl;intro w' hSw;clear hSw;(try simp only [sB,sC]);go_simp;(try with_reducible rfl));exact tkN)
     simp only [sB,sC]
     refine wpAnyU_done (by kernel_rfl) ?_ _ _
     refine NoPanic.normal ?_
     clear hWr5
     replace hH:=S2o0 hH
     (try dsimp only at hH)
     have k0:=hH
     clear hH hRL
     try clear hb
     have hRL:=k0
     clear k0
     obtain ⟨wo,rfl⟩:∃ wo:World,wo=wn:=⟨_,rfl⟩
     obtain ⟨l0,l1,-,-,-,-,-,-,-,-⟩:=id hRL.rc
     obtain ⟨z0,z1,z2,z3,zf⟩:=id hRL.o
     have hgl:=lt_of_cell z0
     have hRL2:=hRL.set1 (o1+E1) (o2+E2)
     unfold putO1 at hRL2
     clear HFx HFy HXx HXy HVx HVy
     go_wp2
     go_roundw
     case rel=>exact .inr (.inr ⟨_,_,_,_,rfl,HC2.out,hRL2⟩)
     case measure=>simp [intOf]
    ·obtain rfl : bv = false := by rw [HBV.out]; exact decide_eq_false hB0
     have HC2:Hid (R=(((o1,o2),(o3,o4)),true)):=by
      show _=_
      rw [HC.out,HAB.out,if_neg (fun h=>hB0 h.2)]
      rcases HCA.out with ⟨h,rfl,rfl,rfl,rfl⟩ | ⟨h,-,rfl,rfl,rfl,rfl⟩
      ·rw [if_neg (by omega),if_neg hB0]
      ·rw [if_pos h]
     clear HCA
     go_wp2
     go_roundw
     case rel=>exact .inr (.inr ⟨_,_,_,_,rfl,HC2.out,hRL⟩)
     case measure=>simp [intOf]
   ·have HC2 := hid hfin
    clear hfin
    obtain ⟨⟨⟨_,z0⟩,⟨_,z1⟩,⟨_,z2⟩,⟨_,z3⟩⟩,zf⟩:=hRL.rc.z
    obtain ⟨l0,l1,l2,l3,-⟩:=id hRL.o
    have hgl:=lt_of_cell z0
    have hB:=hRL.rc.bel
    go_wp2
    refine bodyPost_ret (v:=clpW (((o1,o2),(o3,o4)),true)) (by simp [clpW,results,Tryz.results100,go_sem,z0,z1,z2,z3]) rfl ⟨by rw [HC2.out],(((hB.setCell (p:=⟨gR,0,none⟩) hwR _).setCell (p:=⟨gR,1,none⟩) hwR _).setCell (p:=⟨gR,2,none⟩) hwR _).setCell (p:=⟨gR,3,none⟩) hwR _⟩
end
end Go.Proofs.YtiaoandbdgdecaaGreat
